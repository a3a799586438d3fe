/- Apply of a drawn right matrix, by the program, stays within a byte, row by row, and is what the reference's sums, shifted and clamped, are. No conditions. -/
import Derived.Test.YtigplfheldfciaaPFnAppliesx
namespace Go.Proofs.Ytigplfheldfciaa.Pure
open Go.RowKit Go.Proofs.Ytigplfheldfciaa.PFnApplies Go.Proofs.YtigplfheldfciaaW.PrintWords Go.Proofs.YtigplfheldfciaaW.PrintLast Go.Proofs.YtigplfheldfciaaW.PrintMore
set_option linter.unusedVariables false
set_option linter.unusedSimpArgs false

theorem w64 {i : Int} (h0 : -9223372036854775808 ≤ i) (h : i ≤ 9223372036854775807) : wrap64 i = i := by unfold wrap64; omega
theorem rd_get (l : List Int) (i : Nat) (h : i < l.length) : rd l (i : Int) = l[i] := by simp [rd, List.getD_eq_getElem?_getD, h]


theorem and_small (m : Nat) (hm : m < 9223372036854775808) (x : Int) : 0 ≤ Go.bits .and .i64 x (m : Int) ∧ Go.bits .and .i64 x (m : Int) ≤ (m : Int) := by
  simp only [Go.bits, BitVec.toNat_and]
  have h1 : (BitVec.ofInt IntKind.i64.bits x).toNat &&& (BitVec.ofInt IntKind.i64.bits (m : Int)).toNat ≤ m := by
    refine Nat.le_trans Nat.and_le_right ?_
    rw [BitVec.ofInt_natCast, BitVec.toNat_ofNat]
    exact Nat.mod_le _ _
  generalize (BitVec.ofInt IntKind.i64.bits x).toNat &&& (BitVec.ofInt IntKind.i64.bits (m : Int)).toNat = y at h1
  rw [IntKind.wrap_i64]
  omega
/-- A cursor's place. -/
def Cu (b : List Int) (i : Int) : Prop := 0 ≤ i ∧ i ≤ (b.length : Int) ∧ b.length ≤ 1048576
theorem byte_tells (b : List Int) (i h : Int) (hc : Cu b i) : ∃ v i' h', spec_l01Byte.f b i h = some (v, i', h') ∧ 0 ≤ v ∧ v ≤ 255 ∧ Cu b i' := by
  obtain ⟨h0, h1, h2⟩ := hc
  unfold spec_l01Byte.f
  by_cases hl : i < (b.length : Int)
  · rw [if_pos hl, if_pos h0, w64 (i := i + 1) (by omega) (by omega)]
    exact ⟨_, _, _, rfl, (and_small 255 (by decide) _).1, (and_small 255 (by decide) _).2, by omega, by omega, h2⟩
  · rw [if_neg hl]
    exact ⟨_, _, _, rfl, (and_small 255 (by decide) _).1, (and_small 255 (by decide) _).2, h0, h1, h2⟩
theorem below_tells (b : List Int) (i h : Int) (hc : Cu b i) (n : Int) (hn : 0 < n) (hn2 : n ≤ 4294967296) : ∃ v i' h', spec_l01Below.f b i h n = some (v, i', h') ∧ 0 ≤ v ∧ v < n ∧ Cu b i' := by
  unfold spec_l01Below.f
  rw [if_neg (by omega)]
  obtain ⟨v, i', h', e, v0, v1, hc'⟩ := byte_tells b i h hc
  by_cases h256 : n ≤ 256
  · rw [if_pos h256, e]
    simp only [Option.bind_some]
    rw [if_neg (by omega), Int.tmod_eq_emod_of_nonneg v0]
    exact ⟨_, _, _, rfl, Int.emod_nonneg _ (by omega), Int.emod_lt_of_pos _ hn, hc'⟩
  · obtain ⟨v2, i2, h2, e2, v20, v21, hc2⟩ := byte_tells b i' h' hc'
    obtain ⟨v3, i3, h3, e3, v30, v31, hc3⟩ := byte_tells b i2 h2 hc2
    obtain ⟨v4, i4, h4, e4, v40, v41, hc4⟩ := byte_tells b i3 h3 hc3
    rw [if_neg h256, e]
    simp only [Option.bind_some, e2, e3, e4]
    rw [if_neg (by omega), w64 (i := v * 16777216) (by omega) (by omega), w64 (i := v2 * 65536) (by omega) (by omega), w64 (i := v3 * 256) (by omega) (by omega), w64 (i := v * 16777216 + v2 * 65536) (by omega) (by omega), w64 (i := v * 16777216 + v2 * 65536 + v3 * 256) (by omega) (by omega), w64 (by omega) (by omega), Int.tmod_eq_emod_of_nonneg (by omega)]
    exact ⟨_, _, _, rfl, Int.emod_nonneg _ (by omega), Int.emod_lt_of_pos _ hn, hc4⟩
/-- a number of at most 0: nothing is drawn -/
theorem below_none (b : List Int) (i h : Int) (n : Int) (hn : n ≤ 0) : spec_l01Below.f b i h n = some (0, i, h) := by
  unfold spec_l01Below.f
  rw [if_pos hn]

theorem x_from (b : List Int) (n : Nat) (hn : n ≤ 100000) (d : Nat) : ∀ (k j : Nat) (acc : List Int) (i h : Int), j + d = n → acc.length = j → d < k → Cu b i → (∀ z ∈ acc, -127 ≤ z ∧ z ≤ 127) →
    ∃ r i' h', (∀ k', d < k' → spec_l05X.l0 k' (n : Int) acc (j : Int) b i h = some (r, i', h')) ∧ r.length = n ∧ (∀ z ∈ r, -127 ≤ z ∧ z ≤ 127) ∧ Cu b i' := by
  induction d with
  | zero =>
    intro k j acc i h hj ha hk hc hz
    refine ⟨acc, i, h, fun k' hk' => ?_, by omega, hz, hc⟩
    obtain ⟨k', rfl⟩ : ∃ m, k' = m + 1 := ⟨k' - 1, by omega⟩
    simp only [spec_l05X.l0]; rw [if_neg (by omega)]
  | succ d ih =>
    intro k j acc i h hj ha hk hc hz
    obtain ⟨v, i1, h1, e, v0, v1, hc1⟩ := below_tells b i h hc 255 (by omega) (by omega)
    obtain ⟨r, i', h', hr, hl, hz', hc'⟩ := ih (k - 1) (j + 1) (acc ++ [v - 127]) i1 h1 (by omega) (by simp; omega) (by omega) hc1 (fun z hz1 => by
      rcases List.mem_append.1 hz1 with h | h
      · exact hz z h
      · rw [List.mem_singleton.1 h]; omega)
    refine ⟨r, i', h', fun k' hk' => ?_, hl, hz', hc'⟩
    obtain ⟨k', rfl⟩ : ∃ m, k' = m + 1 := ⟨k' - 1, by omega⟩
    simp only [spec_l05X.l0]
    rw [if_pos (by omega), e]
    simp only [Option.bind_some]
    rw [if_pos (by omega), w64 (i := v - 127) (by omega) (by omega), w64 (by omega) (by omega), show ((j : Int) + 1) = ((j + 1 : Nat) : Int) by omega]
    exact hr k' (by omega)
theorem x_tells (b : List Int) (i h : Int) (hc : Cu b i) (n : Int) (h0 : 0 ≤ n) (hn : n ≤ 100000) : ∃ r i' h', (∀ k, n.toNat < k → spec_l05X.f k b i h n = some (r, i', h')) ∧ (r.length : Int) = n ∧ (∀ z ∈ r, -127 ≤ z ∧ z ≤ 127) ∧ Cu b i' := by
  obtain ⟨m, rfl⟩ := Int.eq_ofNat_of_zero_le h0
  obtain ⟨r, i', h', hr, hl, hz, hc'⟩ := x_from b m (by omega) m (m + 1) 0 [] i h (by omega) rfl (by omega) hc (fun z hz => by cases hz)
  refine ⟨r, i', h', fun k hk => ?_, by omega, hz, hc'⟩
  unfold spec_l05X.f
  exact hr k (by omega)

def widthB (n : Int) : Bool := decide (n = 4) || decide (n = 8)
theorem tmod4 (n : Int) (h0 : 4 ≤ n) (h1 : n ≤ 8) : (Int.tmod n 4 == 0) = widthB n := by
  have : n = 4 ∨ n = 5 ∨ n = 6 ∨ n = 7 ∨ n = 8 := by omega
  rcases this with rfl | rfl | rfl | rfl | rfl <;> rfl
theorem width_facts (n : Int) (h : widthB n = true) : n = 4 ∨ n = 8 := by
  unfold widthB at h; simpa using h
theorem width_no (n : Int) (h : ¬ (4 ≤ n ∧ n ≤ 8)) : widthB n = false := by
  unfold widthB; rw [decide_eq_false (by omega), decide_eq_false (by omega)]; rfl
def rowB (r s : List Int) : Bool := widthB (r.length : Int) && (r.all fun z => decide (-8 ≤ z) && decide (z ≤ 7)) && decide ((s.length : Int) = (r.length : Int) / 4) && s.all fun z => decide (1 ≤ z) && decide (z ≤ 127)
theorem row_facts (r s : List Int) (h : rowB r s = true) : (r.length = 4 ∨ r.length = 8) ∧ (∀ z ∈ r, -8 ≤ z ∧ z ≤ 7) ∧ s.length = r.length / 4 ∧ ∀ z ∈ s, 1 ≤ z ∧ z ≤ 127 := by
  unfold rowB at h
  simp only [Bool.and_eq_true, List.all_eq_true, decide_eq_true_eq] at h
  have := width_facts _ h.1.1.1
  exact ⟨by omega, h.1.1.2, by omega, h.2⟩
/-- the weighted sum of the first n numbers -/
def sumTo (r s x : List Int) : Nat → Int
  | 0 => 0
  | n + 1 => sumTo r s x n + rd s ((n / 4 : Nat) : Int) * rd r (n : Int) * rd x (n : Int)
theorem prod_bd (a b c A B C : Int) (ha : -A ≤ a) (ha2 : a ≤ A) (hb : -B ≤ b) (hb2 : b ≤ B) (hc : -C ≤ c) (hc2 : c ≤ C) (A0 : 0 ≤ A) (B0 : 0 ≤ B) (C0 : 0 ≤ C) :
    (-(A * B) ≤ a * b ∧ a * b ≤ A * B) ∧ -(A * B * C) ≤ a * b * c ∧ a * b * c ≤ A * B * C := by
  have key : ∀ (p q P Q : Int), -P ≤ p → p ≤ P → -Q ≤ q → q ≤ Q → -(P * Q) ≤ p * q ∧ p * q ≤ P * Q := by
    intro p q P Q h1 h2 h3 h4
    have e1 : 0 ≤ (P - p) * (Q + q) := Int.mul_nonneg (by omega) (by omega)
    have e2 : 0 ≤ (P + p) * (Q - q) := Int.mul_nonneg (by omega) (by omega)
    have e3 : 0 ≤ (P - p) * (Q - q) := Int.mul_nonneg (by omega) (by omega)
    have e4 : 0 ≤ (P + p) * (Q + q) := Int.mul_nonneg (by omega) (by omega)
    simp only [Int.sub_mul, Int.mul_sub, Int.add_mul, Int.mul_add] at e1 e2 e3 e4
    omega
  have h1 := key a b A B ha ha2 hb hb2
  exact ⟨h1, key (a * b) c (A * B) C h1.1 h1.2 hc hc2⟩
theorem rd_mem (l : List Int) (i : Nat) (h : i < l.length) : rd l (i : Int) ∈ l := by rw [rd_get l i h]; exact List.getElem_mem h
theorem term_bd (r s x : List Int) (h : rowB r s = true) (hx : ∀ z ∈ x, -127 ≤ z ∧ z ≤ 127) (hl : x.length = r.length) (i : Nat) (hi : i < r.length) :
    (-1016 ≤ rd s ((i / 4 : Nat) : Int) * rd r (i : Int) ∧ rd s ((i / 4 : Nat) : Int) * rd r (i : Int) ≤ 1016) ∧ -129032 ≤ rd s ((i / 4 : Nat) : Int) * rd r (i : Int) * rd x (i : Int) ∧ rd s ((i / 4 : Nat) : Int) * rd r (i : Int) * rd x (i : Int) ≤ 129032 := by
  obtain ⟨h1, h2, h3, h4⟩ := row_facts r s h
  have a := h4 _ (rd_mem s (i / 4) (by omega))
  have b := h2 _ (rd_mem r i hi)
  have c := hx _ (rd_mem x i (by omega))
  have := prod_bd (rd s ((i / 4 : Nat) : Int)) (rd r (i : Int)) (rd x (i : Int)) 127 8 127 (by omega) (by omega) (by omega) (by omega) (by omega) (by omega) (by omega) (by omega) (by omega)
  simpa using this
theorem sum_bd (r s x : List Int) (h : rowB r s = true) (hx : ∀ z ∈ x, -127 ≤ z ∧ z ≤ 127) (hl : x.length = r.length) : ∀ n, n ≤ r.length → -(129032 * (n : Int)) ≤ sumTo r s x n ∧ sumTo r s x n ≤ 129032 * (n : Int)
  | 0, _ => by unfold sumTo; omega
  | n + 1, hn => by
    have ih := sum_bd r s x h hx hl n (by omega)
    have ht := (term_bd r s x h hx hl n (by omega)).2
    unfold sumTo
    omega
theorem tdiv4 (i : Nat) : Int.tdiv (i : Int) 4 = ((i / 4 : Nat) : Int) := by
  rw [Int.tdiv_eq_ediv_of_nonneg (by omega)]; omega

theorem small_from (b : List Int) (n : Nat) (hn : n ≤ 100000) (d : Nat) : ∀ (j : Nat) (acc : List Int) (i h : Int), j + d = n → acc.length = j → Cu b i → (∀ z ∈ acc, -8 ≤ z ∧ z ≤ 7) →
    ∃ r i' h', (∀ k', d < k' → spec_l04Small.l0 k' (n : Int) acc (j : Int) b i h = some (r, i', h')) ∧ r.length = n ∧ (∀ z ∈ r, -8 ≤ z ∧ z ≤ 7) ∧ Cu b i' := by
  induction d with
  | zero =>
    intro j acc i h hj ha hc hz
    refine ⟨acc, i, h, fun k' hk' => ?_, by omega, hz, hc⟩
    obtain ⟨k', rfl⟩ : ∃ m, k' = m + 1 := ⟨k' - 1, by omega⟩
    rw [spec_l04Small.l0, if_neg (by omega)]
  | succ d ih =>
    intro j acc i h hj ha hc hz
    obtain ⟨v, i1, h1, e, v0, v1, hc1⟩ := below_tells b i h hc 16 (by omega) (by omega)
    obtain ⟨r, i', h', hr, hl, hz', hc'⟩ := ih (j + 1) (acc ++ [v - 8]) i1 h1 (by omega) (by simp; omega) hc1 (fun z hz1 => by
      rcases List.mem_append.1 hz1 with h | h
      · exact hz z h
      · rw [List.mem_singleton.1 h]; omega)
    refine ⟨r, i', h', fun k' hk' => ?_, hl, hz', hc'⟩
    obtain ⟨k', rfl⟩ : ∃ m, k' = m + 1 := ⟨k' - 1, by omega⟩
    rw [spec_l04Small.l0, if_pos (by omega), e, Option.bind_some, if_pos (by omega), w64 (i := v - 8) (by omega) (by omega), w64 (by omega) (by omega), show ((j : Int) + 1) = ((j + 1 : Nat) : Int) by omega]
    exact hr k' (by omega)
theorem getD_l {α : Type} (l l' : List α) (i : Nat) (d : α) (h : i < l.length) : (l ++ l').getD i d = l.getD i d := by
  rw [List.getD_eq_getElem?_getD, List.getD_eq_getElem?_getD, List.getElem?_append_left h]
theorem getD_r {α : Type} (l : List α) (a : α) (i : Nat) (d : α) (h : i = l.length) : (l ++ [a]).getD i d = a := by
  subst h
  rw [List.getD_eq_getElem?_getD, List.getElem?_append_right (Nat.le_refl _), Nat.sub_self]; rfl
/-- what a drawn row and its scales are -/
def RowIs (w : Nat) (r s : List Int) : Prop := r.length = w ∧ (∀ z ∈ r, -8 ≤ z ∧ z ≤ 7) ∧ s.length = w / 4 ∧ ∀ z ∈ s, 1 ≤ z ∧ z ≤ 20
theorem rowIs_ok (w : Nat) (hw : w = 4 ∨ w = 8) (r s : List Int) (h : RowIs w r s) : rowB r s = true := by
  obtain ⟨h1, h2, h3, h4⟩ := h
  unfold rowB widthB
  simp only [Bool.and_eq_true, Bool.or_eq_true, List.all_eq_true, decide_eq_true_eq]
  exact ⟨⟨⟨by omega, fun z hz => h2 z hz⟩, by omega⟩, fun z hz => by have := h4 z hz; omega⟩
/-- a drawn matrix from row j on: the inner loop first -/
theorem mat_from (b : List Int) (w n : Nat) (hw : w = 4 ∨ w = 8) (hn : n ≤ 300) (M H : Int) (d : Nat) : ∀ (j : Nat) (R S : List (List Int)) (i h : Int), j + d = n → R.length = j → S.length = j → Cu b i → (∀ q, q < j → RowIs w (R.getD q []) (S.getD q [])) →
    ∃ R' S' i' h', (∀ k', 10 * d + 40 < k' → spec_l05Matrix.l0 k' (w : Int) (n : Int) (j : Int) b i h (w : Int) R S M H = some ((w : Int), R', S', M, H, i', h')) ∧ R'.length = n ∧ S'.length = n ∧ Cu b i' ∧ ∀ q, q < n → RowIs w (R'.getD q []) (S'.getD q []) := by
  induction d with
  | zero =>
    intro j R S i h hj hR hS hc hq
    refine ⟨R, S, i, h, fun k' hk' => ?_, by omega, by omega, hc, fun q hq' => hq q (by omega)⟩
    obtain ⟨k', rfl⟩ : ∃ m, k' = m + 1 := ⟨k' - 1, by omega⟩
    rw [spec_l05Matrix.l0, if_neg (by omega)]
  | succ d ih =>
    intro j R S i h hj hR hS hc hq
    -- the scales
    have inner : ∀ (e q : Nat) (s : List Int) (i h : Int), q + e = w / 4 → s.length = q → Cu b i → (∀ z ∈ s, 1 ≤ z ∧ z ≤ 20) →
        ∃ R' S' i' h', (∀ k', 10 * d + e + 45 < k' → spec_l05Matrix.l1 k' (w : Int) (n : Int) (j : Int) s (q : Int) b i h (w : Int) R S M H = some ((w : Int), R', S', M, H, i', h')) ∧ R'.length = n ∧ S'.length = n ∧ Cu b i' ∧ ∀ q, q < n → RowIs w (R'.getD q []) (S'.getD q []) := by
      intro e
      induction e with
      | zero =>
        intro q s i h he hs hc hz
        obtain ⟨r, i1, h1, hr, hl, hz1, hc1⟩ := small_from b w (by omega) w 0 [] i h (by omega) rfl hc (fun z hz => by cases hz)
        obtain ⟨R', S', i', h', hr', g1, g2, g3, g4⟩ := ih (j + 1) (R ++ [r]) (S ++ [s]) i1 h1 (by omega) (by simp; omega) (by simp; omega) hc1 (fun q' hq' => by
          by_cases hlt : q' < j
          · rw [getD_l R [r] q' [] (by omega), getD_l S [s] q' [] (by omega)]; exact hq q' hlt
          · obtain rfl : q' = j := by omega
            rw [getD_r R r q' [] (by omega), getD_r S s q' [] (by omega)]
            exact ⟨hl, hz1, by omega, hz⟩)
        refine ⟨R', S', i', h', fun k' hk' => ?_, g1, g2, g3, g4⟩
        obtain ⟨k', rfl⟩ : ∃ m, k' = m + 1 := ⟨k' - 1, by omega⟩
        have hr2 := hr k' (by omega)
        rw [spec_l05Matrix.l1, tdiv4, w64 (i := ((w / 4 : Nat) : Int)) (by omega) (by omega), if_neg (by omega)]
        unfold spec_l04Small.f
        rw [show ((0 : Nat) : Int) = 0 from rfl] at hr2
        rw [hr2, Option.bind_some, if_pos (by omega), if_pos (by omega), w64 (by omega) (by omega), show ((j : Int) + 1) = ((j + 1 : Nat) : Int) by omega]
        exact hr' k' (by omega)
      | succ e ihe =>
        intro q s i h he hs hc hz
        obtain ⟨v, i1, h1, ev, v0, v1, hc1⟩ := below_tells b i h hc 20 (by omega) (by omega)
        obtain ⟨R', S', i', h', hr', g1, g2, g3, g4⟩ := ihe (q + 1) (s ++ [1 + v]) i1 h1 (by omega) (by simp; omega) hc1 (fun z hz1 => by
          rcases List.mem_append.1 hz1 with h | h
          · exact hz z h
          · rw [List.mem_singleton.1 h]; omega)
        refine ⟨R', S', i', h', fun k' hk' => ?_, g1, g2, g3, g4⟩
        obtain ⟨k', rfl⟩ : ∃ m, k' = m + 1 := ⟨k' - 1, by omega⟩
        rw [spec_l05Matrix.l1, tdiv4, w64 (i := ((w / 4 : Nat) : Int)) (by omega) (by omega), if_pos (by omega), ev, Option.bind_some, if_pos (by omega), w64 (i := 1 + v) (by omega) (by omega), w64 (by omega) (by omega), show ((q : Int) + 1) = ((q + 1 : Nat) : Int) by omega]
        exact hr' k' (by omega)
    obtain ⟨R', S', i', h', hr', g1, g2, g3, g4⟩ := inner (w / 4) 0 [] i h (by omega) rfl hc (fun z hz => by cases hz)
    refine ⟨R', S', i', h', fun k' hk' => ?_, g1, g2, g3, g4⟩
    obtain ⟨k', rfl⟩ : ∃ m, k' = m + 1 := ⟨k' - 1, by omega⟩
    rw [spec_l05Matrix.l0, if_pos (by omega)]
    exact hr' k' (by omega)
theorem mat_tells (b : List Int) (i h : Int) (hc : Cu b i) (w n : Nat) (hw : w = 4 ∨ w = 8) (hn : n ≤ 300) :
    ∃ R S M H i' h', (∀ k, 10 * n + 40 < k → spec_l05Matrix.f k b i h (w : Int) (n : Int) = some ((w : Int), R, S, M, H, i', h')) ∧ R.length = n ∧ S.length = n ∧ 1 ≤ M ∧ M ≤ 40 ∧ 6 ≤ H ∧ H ≤ 10 ∧ Cu b i' ∧ ∀ q, q < n → RowIs w (R.getD q []) (S.getD q []) := by
  obtain ⟨m, i1, h1, e1, m0, m1, hc1⟩ := below_tells b i h hc 40 (by omega) (by omega)
  obtain ⟨s, i2, h2, e2, s0, s1, hc2⟩ := below_tells b i1 h1 hc1 5 (by omega) (by omega)
  obtain ⟨R, S, i', h', hr, g1, g2, g3, g4⟩ := mat_from b w n hw hn (1 + m) (6 + s) n 0 [] [] i2 h2 (by omega) rfl rfl hc2 (fun q hq => by omega)
  refine ⟨R, S, 1 + m, 6 + s, i', h', fun k hk => ?_, g1, g2, by omega, by omega, by omega, by omega, g3, g4⟩
  unfold spec_l05Matrix.f
  rw [e1, Option.bind_some, e2, Option.bind_some, w64 (i := 1 + m) (by omega) (by omega), w64 (i := 6 + s) (by omega) (by omega)]
  exact hr k hk

theorem impl_width (n : Int) : impl_isWidth.f n = some (widthB n) := by
  unfold impl_isWidth.f impl_in.f
  by_cases h1 : n ≥ 4
  · rw [if_pos h1, Option.bind_some]
    by_cases h2 : n ≤ 8
    · rw [decide_eq_true h2, if_pos rfl, tmod4 n h1 h2]
    · rw [decide_eq_false h2, if_neg (by simp), width_no n (by omega)]
  · rw [if_neg h1, Option.bind_some, if_neg (by simp), width_no n (by omega)]
theorem impl_row (r s : List Int) (hr : r.length ≤ 9223372036854775807) : impl_rowOk.f r s = some (rowB r s) := by
  unfold impl_rowOk.f impl_allIn.f rowB
  rw [impl_width, Option.bind_some, w64 (i := (r.length : Int) / 4) (by omega) (by omega)]
  cases h1 : widthB (r.length : Int) with
  | false => rfl
  | true =>
    rw [if_pos rfl, Option.bind_some]
    cases h2 : r.all fun z => decide (-8 ≤ z) && decide (z ≤ 7) with
    | false => simp
    | true =>
      rw [if_pos rfl]
      by_cases h3 : (s.length : Int) = (r.length : Int) / 4
      · rw [if_pos h3, Option.bind_some, decide_eq_true h3]; rfl
      · rw [if_neg h3, decide_eq_false h3]; rfl
theorem impl_sum_from (r s x : List Int) (h : rowB r s = true) (hx : ∀ z ∈ x, -127 ≤ z ∧ z ≤ 127) (hl : x.length = r.length) (d : Nat) : ∀ (k i : Nat), i + d = r.length → d < k →
    impl_rowSum.l0 k s x (sumTo r s x i) r (r.length : Int) (i : Int) = some (sumTo r s x r.length) := by
  obtain ⟨h1, h2, h3, h4⟩ := row_facts r s h
  induction d with
  | zero =>
    intro k i hi hk
    obtain ⟨k, rfl⟩ : ∃ m, k = m + 1 := ⟨k - 1, by omega⟩
    obtain rfl : i = r.length := by omega
    rw [impl_rowSum.l0, if_neg (by omega)]
  | succ d ih =>
    intro k i hi hk
    obtain ⟨k, rfl⟩ : ∃ m, k = m + 1 := ⟨k - 1, by omega⟩
    have ht := term_bd r s x h hx hl i (by omega)
    have hs := sum_bd r s x h hx hl i (by omega)
    rw [impl_rowSum.l0, if_pos (by omega), if_pos (by omega), if_pos (by omega), tdiv4, w64 (i := ((i / 4 : Nat) : Int)) (by omega) (by omega), if_pos (by omega), if_pos (by omega), if_pos (by omega), w64 (i := rd s ((i / 4 : Nat) : Int) * rd r (i : Int)) (by omega) (by omega), w64 (i := rd s ((i / 4 : Nat) : Int) * rd r (i : Int) * rd x (i : Int)) (by omega) (by omega), w64 (i := sumTo r s x i + rd s ((i / 4 : Nat) : Int) * rd r (i : Int) * rd x (i : Int)) (by omega) (by omega), w64 (i := (i : Int) + 1) (by omega) (by omega), show ((i : Int) + 1) = ((i + 1 : Nat) : Int) by omega]
    exact ih k (i + 1) (by omega) (by omega)
theorem impl_sum (r s x : List Int) (h : rowB r s = true) (hx : ∀ z ∈ x, -127 ≤ z ∧ z ≤ 127) (hl : x.length = r.length) (k : Nat) (hk : 10 < k) : impl_rowSum.f k r s x = some (sumTo r s x r.length) := by
  obtain ⟨h1, h2, h3, h4⟩ := row_facts r s h
  unfold impl_rowSum.f
  exact impl_sum_from r s x h hx hl r.length k 0 (by omega) (by omega)

def matB (w : Int) (R S : List (List Int)) (m h : Int) : Bool := widthB w && decide (R.length ≤ 300) && decide (S.length = R.length) && decide (0 ≤ m) && decide (m ≤ 65536) && decide (0 ≤ h) && decide (h ≤ 24) && (List.range R.length).all fun i => decide (((R.getD i []).length : Int) = w) && rowB (R.getD i []) (S.getD i [])
theorem mat_facts (w : Int) (R S : List (List Int)) (m h : Int) (g : matB w R S m h = true) : (w = 4 ∨ w = 8) ∧ R.length ≤ 300 ∧ S.length = R.length ∧ 0 ≤ m ∧ m ≤ 65536 ∧ 0 ≤ h ∧ h ≤ 24 ∧ ∀ i, i < R.length → ((R.getD i []).length : Int) = w ∧ rowB (R.getD i []) (S.getD i []) = true := by
  unfold matB at g
  simp only [Bool.and_eq_true, List.all_eq_true, decide_eq_true_eq, List.mem_range] at g
  exact ⟨width_facts _ g.1.1.1.1.1.1.1, g.1.1.1.1.1.1.2, g.1.1.1.1.1.2, g.1.1.1.1.2, g.1.1.1.2, g.1.1.2, g.1.2, fun i hi => g.2 i hi⟩
theorem all_range_from (P : Nat → Bool) (n i : Nat) (h : i < n) : ((List.range n).drop i).all P = (P i && ((List.range n).drop (i + 1)).all P) := by
  rw [List.drop_eq_getElem_cons (by simpa using h), List.all_cons, List.getElem_range]
theorem impl_mat_from (w : Int) (R S : List (List Int)) (m h : Int) (hl : R.length ≤ 300) (hs : S.length = R.length) (hlen : ∀ r ∈ R, r.length ≤ 9223372036854775807) (d : Nat) : ∀ (k i : Nat), i + d = R.length → d < k →
    impl_MatrixOk.l0 k R (R.length : Int) (i : Int) w R S m h = some (((List.range R.length).drop i).all fun i => decide (((R.getD i []).length : Int) = w) && rowB (R.getD i []) (S.getD i [])) := by
  induction d with
  | zero =>
    intro k i hi hk
    obtain ⟨k, rfl⟩ : ∃ m, k = m + 1 := ⟨k - 1, by omega⟩
    rw [impl_MatrixOk.l0, if_neg (by omega), List.drop_of_length_le (by simp; omega)]; rfl
  | succ d ih =>
    intro k i hi hk
    obtain ⟨k, rfl⟩ : ∃ m, k = m + 1 := ⟨k - 1, by omega⟩
    have hmem : (R.getD i []).length ≤ 9223372036854775807 := hlen _ (by rw [List.getD_eq_getElem?_getD, List.getElem?_eq_getElem (by omega)]; exact List.getElem_mem _)
    rw [impl_MatrixOk.l0, if_pos (by omega), if_pos (by omega), if_pos (by omega), all_range_from _ _ i (by omega)]
    show (if ((R.getD (i : Int).toNat []).length : Int) = w then _ else _) = _
    rw [Int.toNat_natCast]
    by_cases h1 : ((R.getD i []).length : Int) = w
    · rw [if_pos h1, if_pos (by omega), decide_eq_true h1]
      show ((impl_rowOk.f (R.getD (i : Int).toNat []) (S.getD (i : Int).toNat [])).bind _) = _
      rw [Int.toNat_natCast, impl_row _ _ hmem, Option.bind_some, w64 (by omega) (by omega), show ((i : Int) + 1) = ((i + 1 : Nat) : Int) by omega]
      cases hr : rowB (R.getD i []) (S.getD i []) with
      | true => rw [if_pos rfl, ih k (i + 1) (by omega) (by omega)]; rfl
      | false => rfl
    · rw [if_neg h1, decide_eq_false h1]; rfl
theorem impl_mat (w : Int) (R S : List (List Int)) (m h : Int) (hR : R.length ≤ 9223372036854775807) (hlen : ∀ r ∈ R, r.length ≤ 9223372036854775807) (k : Nat) (hk : 310 < k) : impl_MatrixOk.f k w R S m h = some (matB w R S m h) := by
  obtain ⟨k, rfl⟩ : ∃ m, k = m + 1 := ⟨k - 1, by omega⟩
  unfold impl_MatrixOk.f impl_in.f matB
  rw [impl_width, Option.bind_some]
  cases h1 : widthB w with
  | false => rw [if_neg (by simp), impl_MatrixOk.j0, if_pos rfl]; rfl
  | true =>
    rw [if_pos rfl]
    by_cases h2 : R.length ≤ 300
    · rw [if_neg (by omega), decide_eq_true h2]
      by_cases h3 : S.length = R.length
      · rw [if_pos (by omega), decide_eq_true h3]
        by_cases h4 : 0 ≤ m
        · rw [if_pos h4, Option.bind_some, decide_eq_true h4]
          by_cases h5 : m ≤ 65536
          · rw [decide_eq_true h5, if_pos rfl]
            by_cases h6 : 0 ≤ h
            · rw [if_pos h6, Option.bind_some, decide_eq_true h6]
              by_cases h7 : h ≤ 24
              · rw [decide_eq_true h7, impl_MatrixOk.j0, if_neg (by simp)]
                have := impl_mat_from w R S m h h2 h3 hlen R.length k 0 (by omega) (by omega)
                rw [List.drop_zero] at this
                exact this
              · rw [decide_eq_false h7, impl_MatrixOk.j0, if_pos (by rfl)]; rfl
            · rw [if_neg h6, Option.bind_some, impl_MatrixOk.j0, if_pos (by rfl), decide_eq_false h6]; rfl
          · rw [decide_eq_false h5, if_neg (by simp), impl_MatrixOk.j0, if_pos rfl]; rfl
        · rw [if_neg h4, Option.bind_some, if_neg (by simp), impl_MatrixOk.j0, if_pos rfl, decide_eq_false h4]; rfl
      · rw [if_neg (by omega), impl_MatrixOk.j0, if_pos rfl, decide_eq_false h3]; rfl
    · rw [if_pos (by omega), impl_MatrixOk.j0, if_pos rfl, decide_eq_false h2]; rfl

def floorZ (a b : Int) : Int := a.tdiv b + (if a.tmod b < 0 then -1 else 0)
theorem tdiv_bd (a b : Int) (hb : 0 < b) (m : Int) (h0 : -m ≤ a) (h1 : a ≤ m) : -m ≤ a.tdiv b ∧ a.tdiv b ≤ m := by
  rcases Int.le_total 0 a with h | h
  · have e := Int.tdiv_eq_ediv_of_nonneg h (b := b)
    have e1 := Int.ediv_nonneg h (Int.le_of_lt hb)
    have e2 : a / b ≤ a := Int.ediv_le_self b h
    omega
  · have h' : 0 ≤ -a := by omega
    have e := Int.tdiv_eq_ediv_of_nonneg h' (b := b)
    have e1 := Int.ediv_nonneg h' (Int.le_of_lt hb)
    have e2 : -a / b ≤ -a := Int.ediv_le_self b h'
    rw [Int.neg_tdiv] at e
    omega
theorem spec_floor (a b : Int) (hb : 0 < b) (h0 : -4000000000000000000 ≤ a) (h1 : a ≤ 4000000000000000000) : spec_l03Floor.f a b = some (floorZ a b) := by
  have hd := tdiv_bd a b hb 4000000000000000000 h0 h1
  unfold spec_l03Floor.f floorZ
  rw [if_neg (by omega), w64 (i := a.tdiv b) (by omega) (by omega), w64 (i := a.tdiv b - 1) (by omega) (by omega)]
  by_cases h : a.tmod b < 0
  · rw [if_pos h, if_pos h]; rfl
  · rw [if_neg h, if_neg h, Int.add_zero]

theorem impl_floor (a b : Int) (hb : 0 < b) (h0 : -1000000000000 ≤ a) (h1 : a ≤ 1000000000000) (k : Nat) (hk : 1 < k) : impl_FloorDiv.f k a b = some (floorZ a b) := by
  obtain ⟨k, rfl⟩ : ∃ m, k = m + 1 := ⟨k - 1, by omega⟩
  have hd := tdiv_bd a b hb 1000000000000 h0 h1
  unfold impl_FloorDiv.f impl_in.f
  rw [if_neg (by omega), if_pos (by omega), decide_eq_true h1, Option.bind_some, impl_FloorDiv.j0, if_neg (by simp), if_neg (by omega), w64 (i := a.tdiv b) (by omega) (by omega), w64 (i := a.tdiv b - 1) (by omega) (by omega)]
  unfold floorZ
  by_cases h : a.tmod b < 0
  · rw [if_pos h, if_pos h]; rfl
  · rw [if_neg h, if_neg h, Int.add_zero]

def pw (s : Int) : Int := 2 ^ s.toNat
theorem pw_pos (s : Int) : 0 < pw s := by unfold pw; exact Int.pow_pos (by omega)
theorem pw_succ (n : Nat) : pw ((n : Int) + 1) = 2 * pw (n : Int) := by
  unfold pw
  rw [show ((n : Int) + 1).toNat = n + 1 by omega, Int.pow_succ, Int.mul_comm, Int.toNat_natCast]
theorem pw_bd (s : Int) (h : s ≤ 24) : pw s ≤ 16777216 := by
  unfold pw
  have : (2 : Nat) ^ s.toNat ≤ 2 ^ 24 := Nat.pow_le_pow_right (by omega) (by omega)
  have h2 : ((2 ^ s.toNat : Nat) : Int) ≤ ((2 ^ 24 : Nat) : Int) := Int.ofNat_le.2 this
  rw [Int.natCast_pow] at h2
  exact h2
theorem pow_from (n : Nat) (hn : n ≤ 24) (d : Nat) : ∀ (k i : Nat), i + d = n → d < k → spec_l03Pow.l0 k (n : Int) (pw (i : Int)) (i : Int) = some (pw (n : Int)) := by
  induction d with
  | zero =>
    intro k i h hk
    obtain ⟨k, rfl⟩ : ∃ m, k = m + 1 := ⟨k - 1, by omega⟩
    obtain rfl : i = n := by omega
    rw [spec_l03Pow.l0, if_neg (by omega)]
  | succ d ih =>
    intro k i h hk
    obtain ⟨k, rfl⟩ : ∃ m, k = m + 1 := ⟨k - 1, by omega⟩
    have h1 := pw_bd (i : Int) (by omega)
    have h2 := pw_pos (i : Int)
    rw [spec_l03Pow.l0, if_pos (by omega), w64 (i := 2 * pw (i : Int)) (by omega) (by omega), w64 (i := (i : Int) + 1) (by omega) (by omega), ← pw_succ]
    exact ih k (i + 1) (by omega) (by omega)
theorem spec_pow (n : Int) (h0 : 0 ≤ n) (h1 : n ≤ 24) (k : Nat) (hk : 24 < k) : spec_l03Pow.f k n = some (pw n) := by
  obtain ⟨n, rfl⟩ := Int.eq_ofNat_of_zero_le h0
  unfold spec_l03Pow.f
  exact pow_from n (by omega) n k 0 (by omega) (by omega)
theorem shl_pw (n : Int) (h0 : 0 ≤ n) (h1 : n ≤ 24) : shl .i64 1 n = pw n := by
  have h2 := pw_bd n h1
  have h3 := pw_pos n
  unfold shl
  rw [show min n.toNat IntKind.i64.bits = n.toNat by rw [Nat.min_eq_left]; show n.toNat ≤ 64; omega, Int.one_mul, IntKind.wrap_i64]
  unfold pw at *
  omega

def msz (x m s : Int) : Int := floorZ (x * m + (pw s).tdiv 2) (pw s)
theorem half_bd (s : Int) (h : s ≤ 24) : 0 ≤ (pw s).tdiv 2 ∧ (pw s).tdiv 2 ≤ 8388608 := by
  have h1 := pw_bd s h
  have h2 := pw_pos s
  rw [Int.tdiv_eq_ediv_of_nonneg (by omega)]
  omega
theorem spec_ms (x m s : Int) (x0 : -10000000 ≤ x) (x1 : x ≤ 10000000) (m0 : 0 ≤ m) (m1 : m ≤ 65536) (s0 : 0 ≤ s) (s1 : s ≤ 24) (hp : -700000000000 ≤ x * m) (hp2 : x * m ≤ 700000000000) (k : Nat) (hk : 30 < k) : spec_MulShift.f k x m s = some (msz x m s) := by
  obtain ⟨k, rfl⟩ : ∃ m, k = m + 1 := ⟨k - 1, by omega⟩
  have h1 := half_bd s s1
  have h2 := pw_pos s
  have h3 := pw_bd s s1
  unfold spec_MulShift.f spec_l01In.f
  rw [if_pos (by omega), decide_eq_true x1, Option.bind_some, if_pos rfl, if_pos (by omega), decide_eq_true m1, Option.bind_some, if_pos rfl, if_pos (by omega), decide_eq_true s1, Option.bind_some, spec_MulShift.j0, if_neg (by simp), spec_pow s s0 s1 k (by omega), Option.bind_some, Option.bind_some, w64 (i := x * m) (by omega) (by omega), w64 (i := (pw s).tdiv 2) (by omega) (by omega), w64 (i := x * m + (pw s).tdiv 2) (by omega) (by omega), spec_floor _ _ h2 (by omega) (by omega), Option.bind_some]
  rfl
theorem impl_ms (x m s : Int) (x0 : -10000000 ≤ x) (x1 : x ≤ 10000000) (m0 : 0 ≤ m) (m1 : m ≤ 65536) (s0 : 0 ≤ s) (s1 : s ≤ 24) (hp : -700000000000 ≤ x * m) (hp2 : x * m ≤ 700000000000) (k : Nat) (hk : 2 < k) : impl_MulShift.f k x m s = some (msz x m s) := by
  have h1 := half_bd s s1
  have h2 := pw_pos s
  have h3 := pw_bd s s1
  unfold impl_MulShift.f impl_in.f
  rw [if_pos (by omega), decide_eq_true x1, Option.bind_some, if_pos rfl, if_pos (by omega), decide_eq_true m1, Option.bind_some, if_pos rfl, if_pos (by omega), decide_eq_true s1, Option.bind_some, if_pos rfl, if_pos s0, shl_pw s s0 s1, w64 (i := x * m) (by omega) (by omega), w64 (i := (pw s).tdiv 2) (by omega) (by omega), w64 (i := x * m + (pw s).tdiv 2) (by omega) (by omega), impl_floor _ _ h2 (by omega) (by omega) k (by omega), Option.bind_some]
  rfl

def clampZ (x m : Int) : Int := if x > m then m else if x < -m then -m else x
theorem spec_clamp (x m : Int) (h : 0 ≤ m) (h2 : m ≤ 1000000000) : spec_l03Clamp.f x m = some (clampZ x m) := by
  unfold spec_l03Clamp.f clampZ
  rw [w64 (by omega) (by omega)]
  split
  · rfl
  · split <;> rfl
theorem impl_clamp (x m : Int) (h : 0 ≤ m) (h2 : m ≤ 1000000000) : impl_Clamp.f x m = some (clampZ x m) := by
  unfold impl_Clamp.f clampZ mx mn
  rw [if_neg (by omega), w64 (by omega) (by omega)]
  congr 1
  repeat' split
  all_goals omega

def sumsOf (R S : List (List Int)) (x : List Int) (n : Nat) : List Int := (List.range n).map fun i => sumTo (R.getD i []) (S.getD i []) x (R.getD i []).length
theorem sumsOf_len (R S : List (List Int)) (x : List Int) (n : Nat) : (sumsOf R S x n).length = n := by simp [sumsOf]
theorem sumsOf_succ (R S : List (List Int)) (x : List Int) (n : Nat) : sumsOf R S x (n + 1) = sumsOf R S x n ++ [sumTo (R.getD n []) (S.getD n []) x (R.getD n []).length] := by simp [sumsOf, List.range_succ]
theorem sumsOf_at (R S : List (List Int)) (x : List Int) (n i : Nat) (h : i < n) : rd (sumsOf R S x n) (i : Int) = sumTo (R.getD i []) (S.getD i []) x (R.getD i []).length := by
  rw [rd_get _ i (by rw [sumsOf_len]; exact h)]; simp [sumsOf]
theorem impl_wide_from (w : Int) (R S : List (List Int)) (m h : Int) (g : matB w R S m h = true) (x : List Int) (hx : ∀ z ∈ x, -127 ≤ z ∧ z ≤ 127) (hl : (x.length : Int) = w) (d : Nat) : ∀ (k i : Nat), i + d = R.length → d + 20 < k →
    impl_wide.l0 k x (sumsOf R S x i) R (R.length : Int) (i : Int) w R S m h = some (sumsOf R S x R.length, true) := by
  obtain ⟨f1, f2, f3, f4, f5, f6, f7, f8⟩ := mat_facts w R S m h g
  induction d with
  | zero =>
    intro k i hi hk
    obtain ⟨k, rfl⟩ : ∃ m, k = m + 1 := ⟨k - 1, by omega⟩
    obtain rfl : i = R.length := by omega
    rw [impl_wide.l0, if_neg (by omega)]
  | succ d ih =>
    intro k i hi hk
    obtain ⟨k, rfl⟩ : ∃ m, k = m + 1 := ⟨k - 1, by omega⟩
    obtain ⟨g1, g2⟩ := f8 i (by omega)
    rw [impl_wide.l0, if_pos (by omega), if_pos (by omega), if_pos (by omega), if_pos (by omega)]
    show ((impl_rowSum.f k (R.getD (i : Int).toNat []) (S.getD (i : Int).toNat []) x).bind _) = _
    rw [Int.toNat_natCast, impl_sum _ _ x g2 hx (by omega) k (by omega), Option.bind_some, if_pos (by rw [sumsOf_len]; omega), w64 (by omega) (by omega), show ((i : Int) + 1) = ((i + 1 : Nat) : Int) by omega, ← sumsOf_succ]
    exact ih k (i + 1) (by omega) (by omega)
theorem impl_wide_tells (w : Int) (R S : List (List Int)) (m h : Int) (g : matB w R S m h = true) (hR : 0 < R.length) (x : List Int) (hx : ∀ z ∈ x, -127 ≤ z ∧ z ≤ 127) (hl : (x.length : Int) = w) (k : Nat) (hk : 330 < k) :
    impl_wide.f k w R S m h x = some (sumsOf R S x R.length, true) := by
  obtain ⟨f1, f2, f3, f4, f5, f6, f7, f8⟩ := mat_facts w R S m h g
  obtain ⟨k, rfl⟩ : ∃ m, k = m + 1 := ⟨k - 1, by omega⟩
  have ha : (x.all fun z => decide (-127 ≤ z) && decide (z ≤ 127)) = true := by
    simp only [List.all_eq_true, Bool.and_eq_true, decide_eq_true_eq]; exact hx
  unfold impl_wide.f impl_allIn.f
  rw [if_pos (by omega), if_pos hl, ha, Option.bind_some, impl_wide.j0, if_neg (by simp)]
  exact impl_wide_from w R S m h g x hx hl R.length k 0 (by omega) (by omega)
def narrowL (m h : Int) (l : List Int) : List Int := l.map fun z => clampZ (msz z m h) 127
theorem narrow_snoc (m h : Int) (l : List Int) (i : Nat) (hi : i < l.length) : narrowL m h (l.take (i + 1)) = narrowL m h (l.take i) ++ [clampZ (msz l[i] m h) 127] := by
  rw [List.take_succ_eq_append_getElem hi]; unfold narrowL; rw [List.map_append]; rfl
theorem xm_bd (z m : Int) (hz : -1032256 ≤ z) (hz2 : z ≤ 1032256) (m0 : 0 ≤ m) (m1 : m ≤ 65536) : -700000000000 ≤ z * m ∧ z * m ≤ 700000000000 := by
  have := (prod_bd z m 0 1032256 65536 0 (by omega) (by omega) (by omega) (by omega) (by omega) (by omega) (by omega) (by omega) (by omega)).1
  omega
theorem impl_narrow_from (w : Int) (R S : List (List Int)) (m h : Int) (m0 : 0 ≤ m) (m1 : m ≤ 65536) (h0 : 0 ≤ h) (h1 : h ≤ 24) (l : List Int) (hl : ∀ z ∈ l, -1032256 ≤ z ∧ z ≤ 1032256) (hlen : l.length ≤ 300) (d : Nat) : ∀ (k i : Nat), i + d = l.length → d + 20 < k →
    impl_narrow.l0 k (narrowL m h (l.take i)) l (l.length : Int) (i : Int) w R S m h = some (narrowL m h l) := by
  induction d with
  | zero =>
    intro k i hi hk
    obtain ⟨k, rfl⟩ : ∃ m, k = m + 1 := ⟨k - 1, by omega⟩
    rw [impl_narrow.l0, if_neg (by omega), List.take_of_length_le (by omega)]
  | succ d ih =>
    intro k i hi hk
    obtain ⟨k, rfl⟩ : ∃ m, k = m + 1 := ⟨k - 1, by omega⟩
    have hlt : i < l.length := by omega
    have hz := hl _ (List.getElem_mem hlt)
    have hb := xm_bd l[i] m hz.1 hz.2 m0 m1
    rw [impl_narrow.l0, if_pos (by omega), if_pos (by omega), if_pos (by omega), rd_get l i hlt, impl_ms _ m h (by omega) (by omega) m0 m1 h0 h1 hb.1 hb.2 k (by omega), Option.bind_some, impl_clamp _ 127 (by omega) (by omega), Option.bind_some, if_pos (by simp [narrowL]; omega), w64 (by omega) (by omega), show ((i : Int) + 1) = ((i + 1 : Nat) : Int) by omega, ← narrow_snoc m h l i hlt]
    exact ih k (i + 1) (by omega) (by omega)
theorem impl_narrow_tells (w : Int) (R S : List (List Int)) (m h : Int) (m0 : 0 ≤ m) (m1 : m ≤ 65536) (h0 : 0 ≤ h) (h1 : h ≤ 24) (l : List Int) (hl : ∀ z ∈ l, -1032256 ≤ z ∧ z ≤ 1032256) (hlen : l.length ≤ 300) (k : Nat) (hk : 330 < k) :
    impl_narrow.f k w R S m h l = some (narrowL m h l) := by
  unfold impl_narrow.f
  exact impl_narrow_from w R S m h m0 m1 h0 h1 l hl hlen l.length k 0 (by omega) (by omega)
theorem sums_in (w : Int) (R S : List (List Int)) (m h : Int) (g : matB w R S m h = true) (x : List Int) (hx : ∀ z ∈ x, -127 ≤ z ∧ z ≤ 127) (hl : (x.length : Int) = w) : ∀ z ∈ sumsOf R S x R.length, -1032256 ≤ z ∧ z ≤ 1032256 := by
  obtain ⟨f1, f2, f3, f4, f5, f6, f7, f8⟩ := mat_facts w R S m h g
  intro z hz
  unfold sumsOf at hz
  obtain ⟨i, hi, rfl⟩ := List.mem_map.1 hz
  obtain ⟨g1, g2⟩ := f8 i (List.mem_range.1 hi)
  have := sum_bd _ _ x g2 hx (by omega) (R.getD i []).length (Nat.le_refl _)
  omega

theorem all_from (lo hi : Int) (l : List Int) (hl : l.length ≤ 9223372036854775806) (d : Nat) : ∀ (k i : Nat), i ≤ l.length → l.length - i = d → d < k →
    spec_l05All.l0 k l lo hi (i : Int) = some ((l.drop i).all fun x => decide (lo ≤ x) && decide (x ≤ hi)) := by
  induction d with
  | zero =>
    intro k i hi' hd hk
    obtain ⟨k, rfl⟩ : ∃ m, k = m + 1 := ⟨k - 1, by omega⟩
    rw [List.drop_of_length_le (by omega)]
    simp only [spec_l05All.l0]; rw [if_neg (by omega)]; rfl
  | succ d ih =>
    intro k i hi' hd hk
    obtain ⟨k, rfl⟩ : ∃ m, k = m + 1 := ⟨k - 1, by omega⟩
    have hlt : i < l.length := by omega
    simp only [spec_l05All.l0]
    rw [if_pos (by omega), if_pos (by omega), rd_get l i hlt, List.drop_eq_getElem_cons hlt, List.all_cons]
    unfold spec_l01In.f
    by_cases h1 : l[i] ≥ lo
    · rw [if_pos h1]
      simp only [Option.bind_some]
      by_cases h2 : l[i] ≤ hi
      · rw [decide_eq_true h2, if_pos rfl, w64 (by omega) (by omega), show ((i : Int) + 1) = ((i + 1 : Nat) : Int) by omega, ih k (i + 1) (by omega) (by omega) (by omega)]
        simp [h1]
      · rw [decide_eq_false h2]; simp
    · rw [if_neg h1]; simp only [Option.bind_some]; rw [decide_eq_false h1]; simp
/-- spec.l05All: all within. -/
theorem all_tells (lo hi : Int) (l : List Int) (hl : l.length ≤ 9223372036854775806) (k : Nat) (hk : l.length < k) : spec_l05All.f k l lo hi = some (l.all fun x => decide (lo ≤ x) && decide (x ≤ hi)) := by
  unfold spec_l05All.f
  have := all_from lo hi l hl l.length k 0 (by omega) (by omega) hk
  rw [List.drop_zero] at this
  exact this


theorem spec_width (n : Int) : spec_l05Width.f n = some (widthB n) := by
  unfold spec_l05Width.f spec_l01In.f
  by_cases h1 : n ≥ 4
  · rw [if_pos h1, Option.bind_some]
    by_cases h2 : n ≤ 8
    · rw [decide_eq_true h2, if_pos rfl, tmod4 n h1 h2]
    · rw [decide_eq_false h2, if_neg (by simp), width_no n (by omega)]
  · rw [if_neg h1, Option.bind_some, if_neg (by simp), width_no n (by omega)]
theorem spec_row (r s : List Int) (hr : r.length ≤ 9223372036854775806) (hs : s.length ≤ 9223372036854775806) (k : Nat) (hk : r.length + s.length < k) : spec_l05Fits.f k r s = some (rowB r s) := by
  unfold spec_l05Fits.f rowB
  rw [spec_width, Option.bind_some, w64 (i := (r.length : Int) / 4) (by omega) (by omega), all_tells _ _ r hr k (by omega), all_tells _ _ s hs k (by omega)]
  cases h1 : widthB (r.length : Int) with
  | false => rfl
  | true =>
    rw [if_pos rfl, Option.bind_some]
    cases h2 : r.all fun z => decide (-8 ≤ z) && decide (z ≤ 7) with
    | false => simp
    | true =>
      rw [if_pos rfl]
      by_cases h3 : (s.length : Int) = (r.length : Int) / 4
      · rw [if_pos h3, Option.bind_some, decide_eq_true h3]; rfl
      · rw [if_neg h3, decide_eq_false h3]; rfl
theorem spec_sum_from (r s x : List Int) (h : rowB r s = true) (hx : ∀ z ∈ x, -127 ≤ z ∧ z ≤ 127) (hl : x.length = r.length) (d : Nat) : ∀ (k i : Nat), i + d = r.length → d < k →
    spec_l05Sum.l0 k r s x (sumTo r s x i) (i : Int) = some (sumTo r s x r.length) := by
  obtain ⟨h1, h2, h3, h4⟩ := row_facts r s h
  induction d with
  | zero =>
    intro k i hi hk
    obtain ⟨k, rfl⟩ : ∃ m, k = m + 1 := ⟨k - 1, by omega⟩
    obtain rfl : i = r.length := by omega
    rw [spec_l05Sum.l0, if_neg (by omega)]
  | succ d ih =>
    intro k i hi hk
    obtain ⟨k, rfl⟩ : ∃ m, k = m + 1 := ⟨k - 1, by omega⟩
    have ht := term_bd r s x h hx hl i (by omega)
    have hs := sum_bd r s x h hx hl i (by omega)
    rw [spec_l05Sum.l0, if_pos (by omega), tdiv4, w64 (i := ((i / 4 : Nat) : Int)) (by omega) (by omega), if_pos (by omega), if_pos (by omega), if_pos (by omega), if_pos (by omega), w64 (i := rd s ((i / 4 : Nat) : Int) * rd r (i : Int)) (by omega) (by omega), w64 (i := rd s ((i / 4 : Nat) : Int) * rd r (i : Int) * rd x (i : Int)) (by omega) (by omega), w64 (i := sumTo r s x i + rd s ((i / 4 : Nat) : Int) * rd r (i : Int) * rd x (i : Int)) (by omega) (by omega), w64 (i := (i : Int) + 1) (by omega) (by omega), show ((i : Int) + 1) = ((i + 1 : Nat) : Int) by omega]
    exact ih k (i + 1) (by omega) (by omega)
theorem spec_sum (r s x : List Int) (h : rowB r s = true) (hx : ∀ z ∈ x, -127 ≤ z ∧ z ≤ 127) (hl : x.length = r.length) (k : Nat) (hk : 10 < k) : spec_l05Sum.f k r s x = some (sumTo r s x r.length) := by
  obtain ⟨h1, h2, h3, h4⟩ := row_facts r s h
  unfold spec_l05Sum.f
  exact spec_sum_from r s x h hx hl r.length k 0 (by omega) (by omega)

theorem matB_of (w n : Nat) (hw : w = 4 ∨ w = 8) (R S : List (List Int)) (M H : Int) (hn : n ≤ 300) (hR : R.length = n) (hS : S.length = n) (m0 : 0 ≤ M) (m1 : M ≤ 65536) (h0 : 0 ≤ H) (h1 : H ≤ 24) (hq : ∀ q, q < n → RowIs w (R.getD q []) (S.getD q [])) : matB (w : Int) R S M H = true := by
  unfold matB widthB
  simp only [Bool.and_eq_true, Bool.or_eq_true, List.all_eq_true, decide_eq_true_eq, List.mem_range]
  refine ⟨⟨⟨⟨⟨⟨⟨by omega, by omega⟩, by omega⟩, m0⟩, m1⟩, h0⟩, h1⟩, fun i hi => ?_⟩
  have h := hq i (by omega)
  exact ⟨by rw [h.1], rowIs_ok w hw _ _ h⟩
theorem byteish_from (l : List Int) (hl : ∀ z ∈ l, -127 ≤ z ∧ z ≤ 127) (hlen : l.length ≤ 1048576) (d : Nat) : ∀ (k i : Nat), i + d = l.length → d < k → laws_byteish.l0 k l (i : Int) = some true := by
  induction d with
  | zero =>
    intro k i hi hk
    obtain ⟨k, rfl⟩ : ∃ m, k = m + 1 := ⟨k - 1, by omega⟩
    rw [laws_byteish.l0, if_neg (by omega)]
  | succ d ih =>
    intro k i hi hk
    obtain ⟨k, rfl⟩ : ∃ m, k = m + 1 := ⟨k - 1, by omega⟩
    have hz := hl _ (rd_mem l i (by omega))
    rw [laws_byteish.l0, if_pos (by omega), if_pos (by omega), if_neg (by omega), if_neg (by omega), w64 (by omega) (by omega), show ((i : Int) + 1) = ((i + 1 : Nat) : Int) by omega]
    exact ih k (i + 1) (by omega) (by omega)
theorem byteish_tells (l : List Int) (hl : ∀ z ∈ l, -127 ≤ z ∧ z ≤ 127) (hlen : l.length ≤ 1048576) (k : Nat) (hk : l.length < k) : laws_byteish.f k l = some true := by
  unfold laws_byteish.f
  exact byteish_from l hl hlen l.length k 0 (by omega) hk
theorem clamp_127 (x : Int) : -127 ≤ clampZ x 127 ∧ clampZ x 127 ≤ 127 := by
  unfold clampZ
  by_cases h1 : x > 127
  · rw [if_pos h1]; omega
  · rw [if_neg h1]
    by_cases h2 : x < -127
    · rw [if_pos h2]; omega
    · rw [if_neg h2]; omega
theorem narrow_in (m h : Int) (l : List Int) : ∀ z ∈ narrowL m h l, -127 ≤ z ∧ z ≤ 127 := by
  intro z hz
  obtain ⟨y, _, rfl⟩ := List.mem_map.1 hz
  exact clamp_127 _
theorem applies_from (w : Int) (R S : List (List Int)) (M H : Int) (g : matB w R S M H = true) (x : List Int) (hx : ∀ z ∈ x, -127 ≤ z ∧ z ≤ 127) (hl : (x.length : Int) = w) (d : Nat) : ∀ (k i : Nat), i + d = R.length → d + 60 < k →
    laws_FnApplies.l0 k x (narrowL M H (sumsOf R S x R.length)) (sumsOf R S x R.length) (i : Int) w R S M H = some true := by
  obtain ⟨f1, f2, f3, f4, f5, f6, f7, f8⟩ := mat_facts w R S M H g
  have hin := sums_in w R S M H g x hx hl
  have ha : (x.all fun z => decide (-127 ≤ z) && decide (z ≤ 127)) = true := by
    simp only [List.all_eq_true, Bool.and_eq_true, decide_eq_true_eq]; exact hx
  induction d with
  | zero =>
    intro k i hi hk
    obtain ⟨k, rfl⟩ : ∃ m, k = m + 1 := ⟨k - 1, by omega⟩
    rw [laws_FnApplies.l0, if_neg (by simp [narrowL, sumsOf_len]; omega)]
  | succ d ih =>
    intro k i hi hk
    obtain ⟨k, rfl⟩ : ∃ m, k = m + 1 := ⟨k - 1, by omega⟩
    obtain ⟨g1, g2⟩ := f8 i (by omega)
    obtain ⟨r1, r2, r3, r4⟩ := row_facts _ _ g2
    have hs := sumsOf_at R S x R.length i (by omega)
    have hz := hin _ (rd_mem (sumsOf R S x R.length) i (by rw [sumsOf_len]; omega))
    have hb := xm_bd _ M hz.1 hz.2 f4 f5
    have hn : rd (narrowL M H (sumsOf R S x R.length)) (i : Int) = clampZ (msz (rd (sumsOf R S x R.length) (i : Int)) M H) 127 := by
      rw [rd_get _ i (by simp [narrowL, sumsOf_len]; omega), rd_get _ i (by rw [sumsOf_len]; omega)]; simp [narrowL]
    rw [laws_FnApplies.l0, if_pos (by simp [narrowL, sumsOf_len]; omega), if_pos (by omega), if_pos (by omega), if_pos (by omega)]
    show ((spec_RowSum.f k (R.getD (i : Int).toNat []) (S.getD (i : Int).toNat []) x).bind _) = _
    rw [Int.toNat_natCast]
    unfold spec_RowSum.f spec_Clamp.f
    rw [spec_row _ _ (by omega) (by omega) k (by omega), g2, Option.bind_some, if_pos rfl, if_pos (by omega), all_tells (-127) 127 x (by omega) k (by omega), ha, Option.bind_some, if_pos rfl, spec_sum _ _ x g2 hx (by omega) k (by omega), Option.bind_some, Option.bind_some, if_pos (by rw [sumsOf_len]; omega), ← hs, if_pos rfl, spec_ms _ M H (by omega) (by omega) f4 f5 f6 f7 hb.1 hb.2 k (by omega), Option.bind_some, if_neg (by omega), spec_clamp _ 127 (by omega) (by omega), Option.bind_some, Option.bind_some, if_pos hn, w64 (by omega) (by omega), show ((i : Int) + 1) = ((i + 1 : Nat) : Int) by omega]
    exact ih k (i + 1) (by omega) (by omega)
theorem FnApplies : laws_FnApplies.Pure := by
  intro c hm hs hw
  obtain ⟨k, hk⟩ : ∃ k : Nat, k = 1000 := ⟨_, rfl⟩
  refine ⟨k, ?_⟩
  unfold laws_FnApplies.f laws_big.f
  rw [Option.bind_some]
  by_cases hb : (c.length : Int) > 1048576
  · rw [decide_eq_true hb, if_pos rfl]
  · rw [decide_eq_false hb, if_neg (by simp)]
    have hc0 : Cu c 0 := ⟨by omega, by omega, by omega⟩
    obtain ⟨a, i1, h1, e1, a0, a1, hc1⟩ := below_tells c 0 (spec_l01New.hash c) hc0 2 (by omega) (by omega)
    obtain ⟨b, i2, h2, e2, b0, b1, hc2⟩ := below_tells c i1 h1 hc1 5 (by omega) (by omega)
    obtain ⟨w, hw'⟩ := Int.eq_ofNat_of_zero_le (by omega : 0 ≤ 4 + 4 * a)
    obtain ⟨n, hn'⟩ := Int.eq_ofNat_of_zero_le (by omega : 0 ≤ 1 + b)
    obtain ⟨R, S, M, H, i3, h3, e3, hR, hS, M0, M1, H0, H1, hc3, hq⟩ := mat_tells c i2 h2 hc2 w n (by omega) (by omega)
    obtain ⟨x, i4, h4, e4, hx, hxz, hc4⟩ := x_tells c i3 h3 hc3 (w : Int) (by omega) (by omega)
    have hd : spec_DrawRightMatrix.f k c = some ((w : Int), R, S, M, H, x) := by
      unfold spec_DrawRightMatrix.f spec_l01New.f
      rw [Option.bind_some, e1, Option.bind_some, e2, Option.bind_some, w64 (i := 4 * a) (by omega) (by omega), w64 (i := 4 + 4 * a) (by omega) (by omega), w64 (i := 1 + b) (by omega) (by omega), hw', hn', e3 k (by omega), Option.bind_some]
      dsimp only
      rw [e4 k (by omega), Option.bind_some]
    have g := matB_of w n (by omega) R S M H (by omega) hR hS (by omega) (by omega) (by omega) (by omega) hq
    have hlen : ∀ r ∈ R, r.length ≤ 9223372036854775807 := by
      intro r hr
      obtain ⟨q, hq1⟩ := List.getElem?_of_mem hr
      have hql := (List.getElem?_eq_some_iff.1 hq1).1
      have := (hq q (by omega)).1
      rw [List.getD_eq_getElem?_getD, hq1] at this
      simp at this; omega
    have hwide : ∀ k, 400 < k → impl_ApplyWide.f k (w : Int) R S M H x = some (sumsOf R S x R.length, true) := by
      intro k hk
      unfold impl_ApplyWide.f
      rw [impl_mat _ R S M H (by omega) hlen k (by omega), g, Option.bind_some, if_pos rfl, impl_wide_tells _ R S M H g (by omega) x hxz hx k (by omega), Option.bind_some]
    have happ : ∀ k, 400 < k → impl_Apply.f k (w : Int) R S M H x = some (narrowL M H (sumsOf R S x R.length), true) := by
      intro k hk
      unfold impl_Apply.f
      rw [hwide k hk, Option.bind_some, if_pos rfl, impl_narrow_tells _ R S M H (by omega) (by omega) (by omega) (by omega) _ (sums_in _ R S M H g x hxz hx) (by rw [sumsOf_len]; omega) k (by omega), Option.bind_some]
    obtain ⟨j, rfl⟩ : ∃ j, k = j + 1 := ⟨k - 1, by omega⟩
    rw [hd, Option.bind_some]
    dsimp only
    rw [happ _ (by omega), Option.bind_some, hwide _ (by omega), Option.bind_some, if_pos rfl, if_pos rfl, if_pos (by simp [narrowL, sumsOf_len]), if_pos (by simp [narrowL, sumsOf_len]), byteish_tells _ (narrow_in M H _) (by simp [narrowL, sumsOf_len]; omega) _ (by simp [narrowL, sumsOf_len]; omega), Option.bind_some, if_pos rfl, impl_mat _ R S M H (by omega) hlen _ (by omega), g, Option.bind_some, laws_FnApplies.j0, if_neg (by simp)]
    exact applies_from (w : Int) R S M H g x hxz hx R.length j 0 (by omega) (by omega)

end Go.Proofs.Ytigplfheldfciaa.Pure
