/- The program's CellOk returns what the reference's CellOk returns, and leaves its arguments alone, for all arguments. No conditions. -/
import Derived.Test.YtacbkcofcbglhaaGreatGFnExactCellOk3
namespace Go.Proofs.YtacbkcofcbglhaaGreat.Pure
open Go.RowKit Go.Proofs.YtacbkcofcbglhaaGreat.PFnExactCellOk Go.Proofs.YtacbkcofcbglhaaGreatW.PrintWords Go.Proofs.YtacbkcofcbglhaaGreatW.PrintLast Go.Proofs.YtacbkcofcbglhaaGreatW.PrintMore
set_option linter.unusedVariables false
set_option linter.unusedSimpArgs false

theorem w64 {i : Int} (h0 : -9223372036854775808 ≤ i) (h : i ≤ 9223372036854775807) : wrap64 i = i := by unfold wrap64; omega
theorem rd_get (l : List Int) (i : Nat) (h : i < l.length) : rd l (i : Int) = l[i] := by simp [rd, List.getD_eq_getElem?_getD, h]


def widthB (n : Int) : Bool := decide (n = 4) || decide (n = 8)
theorem tmod4 (n : Int) (h0 : 4 ≤ n) (h1 : n ≤ 8) : (Int.tmod n 4 == 0) = widthB n := by
  have : n = 4 ∨ n = 5 ∨ n = 6 ∨ n = 7 ∨ n = 8 := by omega
  rcases this with rfl | rfl | rfl | rfl | rfl <;> rfl
theorem width_facts (n : Int) (h : widthB n = true) : n = 4 ∨ n = 8 := by
  unfold widthB at h; simpa using h
theorem width_no (n : Int) (h : ¬ (4 ≤ n ∧ n ≤ 8)) : widthB n = false := by
  unfold widthB; rw [decide_eq_false (by omega), decide_eq_false (by omega)]; rfl
def rowB (r s : List Int) : Bool := widthB (r.length : Int) && (r.all fun z => decide (-8 ≤ z) && decide (z ≤ 7)) && decide ((s.length : Int) = (r.length : Int) / 4) && s.all fun z => decide (1 ≤ z) && decide (z ≤ 127)
theorem row_facts (r s : List Int) (h : rowB r s = true) : (r.length = 4 ∨ r.length = 8) ∧ (∀ z ∈ r, -8 ≤ z ∧ z ≤ 7) ∧ s.length = r.length / 4 ∧ ∀ z ∈ s, 1 ≤ z ∧ z ≤ 127 := by
  unfold rowB at h
  simp only [Bool.and_eq_true, List.all_eq_true, decide_eq_true_eq] at h
  have := width_facts _ h.1.1.1
  exact ⟨by omega, h.1.1.2, by omega, h.2⟩
/-- the weighted sum of the first n numbers -/
def sumTo (r s x : List Int) : Nat → Int
  | 0 => 0
  | n + 1 => sumTo r s x n + rd s ((n / 4 : Nat) : Int) * rd r (n : Int) * rd x (n : Int)
theorem prod_bd (a b c A B C : Int) (ha : -A ≤ a) (ha2 : a ≤ A) (hb : -B ≤ b) (hb2 : b ≤ B) (hc : -C ≤ c) (hc2 : c ≤ C) (A0 : 0 ≤ A) (B0 : 0 ≤ B) (C0 : 0 ≤ C) :
    (-(A * B) ≤ a * b ∧ a * b ≤ A * B) ∧ -(A * B * C) ≤ a * b * c ∧ a * b * c ≤ A * B * C := by
  have key : ∀ (p q P Q : Int), -P ≤ p → p ≤ P → -Q ≤ q → q ≤ Q → -(P * Q) ≤ p * q ∧ p * q ≤ P * Q := by
    intro p q P Q h1 h2 h3 h4
    have e1 : 0 ≤ (P - p) * (Q + q) := Int.mul_nonneg (by omega) (by omega)
    have e2 : 0 ≤ (P + p) * (Q - q) := Int.mul_nonneg (by omega) (by omega)
    have e3 : 0 ≤ (P - p) * (Q - q) := Int.mul_nonneg (by omega) (by omega)
    have e4 : 0 ≤ (P + p) * (Q + q) := Int.mul_nonneg (by omega) (by omega)
    simp only [Int.sub_mul, Int.mul_sub, Int.add_mul, Int.mul_add] at e1 e2 e3 e4
    omega
  have h1 := key a b A B ha ha2 hb hb2
  exact ⟨h1, key (a * b) c (A * B) C h1.1 h1.2 hc hc2⟩
theorem rd_mem (l : List Int) (i : Nat) (h : i < l.length) : rd l (i : Int) ∈ l := by rw [rd_get l i h]; exact List.getElem_mem h
theorem term_bd (r s x : List Int) (h : rowB r s = true) (hx : ∀ z ∈ x, -127 ≤ z ∧ z ≤ 127) (hl : x.length = r.length) (i : Nat) (hi : i < r.length) :
    (-1016 ≤ rd s ((i / 4 : Nat) : Int) * rd r (i : Int) ∧ rd s ((i / 4 : Nat) : Int) * rd r (i : Int) ≤ 1016) ∧ -129032 ≤ rd s ((i / 4 : Nat) : Int) * rd r (i : Int) * rd x (i : Int) ∧ rd s ((i / 4 : Nat) : Int) * rd r (i : Int) * rd x (i : Int) ≤ 129032 := by
  obtain ⟨h1, h2, h3, h4⟩ := row_facts r s h
  have a := h4 _ (rd_mem s (i / 4) (by omega))
  have b := h2 _ (rd_mem r i hi)
  have c := hx _ (rd_mem x i (by omega))
  have := prod_bd (rd s ((i / 4 : Nat) : Int)) (rd r (i : Int)) (rd x (i : Int)) 127 8 127 (by omega) (by omega) (by omega) (by omega) (by omega) (by omega) (by omega) (by omega) (by omega)
  simpa using this
theorem sum_bd (r s x : List Int) (h : rowB r s = true) (hx : ∀ z ∈ x, -127 ≤ z ∧ z ≤ 127) (hl : x.length = r.length) : ∀ n, n ≤ r.length → -(129032 * (n : Int)) ≤ sumTo r s x n ∧ sumTo r s x n ≤ 129032 * (n : Int)
  | 0, _ => by unfold sumTo; omega
  | n + 1, hn => by
    have ih := sum_bd r s x h hx hl n (by omega)
    have ht := (term_bd r s x h hx hl n (by omega)).2
    unfold sumTo
    omega
theorem tdiv4 (i : Nat) : Int.tdiv (i : Int) 4 = ((i / 4 : Nat) : Int) := by
  rw [Int.tdiv_eq_ediv_of_nonneg (by omega)]; omega

theorem all_from (lo hi : Int) (l : List Int) (hl : l.length ≤ 9223372036854775806) (d : Nat) : ∀ (k i : Nat), i ≤ l.length → l.length - i = d → d < k →
    spec_l05All.l0 k l lo hi (i : Int) = some ((l.drop i).all fun x => decide (lo ≤ x) && decide (x ≤ hi)) := by
  induction d with
  | zero =>
    intro k i hi' hd hk
    obtain ⟨k, rfl⟩ : ∃ m, k = m + 1 := ⟨k - 1, by omega⟩
    rw [List.drop_of_length_le (by omega)]
    simp only [spec_l05All.l0]; rw [if_neg (by omega)]; rfl
  | succ d ih =>
    intro k i hi' hd hk
    obtain ⟨k, rfl⟩ : ∃ m, k = m + 1 := ⟨k - 1, by omega⟩
    have hlt : i < l.length := by omega
    simp only [spec_l05All.l0]
    rw [if_pos (by omega), if_pos (by omega), rd_get l i hlt, List.drop_eq_getElem_cons hlt, List.all_cons]
    unfold spec_l01In.f
    by_cases h1 : l[i] ≥ lo
    · rw [if_pos h1]
      simp only [Option.bind_some]
      by_cases h2 : l[i] ≤ hi
      · rw [decide_eq_true h2, if_pos rfl, w64 (by omega) (by omega), show ((i : Int) + 1) = ((i + 1 : Nat) : Int) by omega, ih k (i + 1) (by omega) (by omega) (by omega)]
        simp [h1]
      · rw [decide_eq_false h2]; simp
    · rw [if_neg h1]; simp only [Option.bind_some]; rw [decide_eq_false h1]; simp
/-- spec.l05All: all within. -/
theorem all_tells (lo hi : Int) (l : List Int) (hl : l.length ≤ 9223372036854775806) (k : Nat) (hk : l.length < k) : spec_l05All.f k l lo hi = some (l.all fun x => decide (lo ≤ x) && decide (x ≤ hi)) := by
  unfold spec_l05All.f
  have := all_from lo hi l hl l.length k 0 (by omega) (by omega) hk
  rw [List.drop_zero] at this
  exact this


theorem spec_width (n : Int) : spec_l05Width.f n = some (widthB n) := by
  unfold spec_l05Width.f spec_l01In.f
  by_cases h1 : n ≥ 4
  · rw [if_pos h1, Option.bind_some]
    by_cases h2 : n ≤ 8
    · rw [decide_eq_true h2, if_pos rfl, tmod4 n h1 h2]
    · rw [decide_eq_false h2, if_neg (by simp), width_no n (by omega)]
  · rw [if_neg h1, Option.bind_some, if_neg (by simp), width_no n (by omega)]
theorem spec_row (r s : List Int) (hr : r.length ≤ 9223372036854775806) (hs : s.length ≤ 9223372036854775806) (k : Nat) (hk : r.length + s.length < k) : spec_l05Fits.f k r s = some (rowB r s) := by
  unfold spec_l05Fits.f rowB
  rw [spec_width, Option.bind_some, w64 (i := (r.length : Int) / 4) (by omega) (by omega), all_tells _ _ r hr k (by omega), all_tells _ _ s hs k (by omega)]
  cases h1 : widthB (r.length : Int) with
  | false => rfl
  | true =>
    rw [if_pos rfl, Option.bind_some]
    cases h2 : r.all fun z => decide (-8 ≤ z) && decide (z ≤ 7) with
    | false => simp
    | true =>
      rw [if_pos rfl]
      by_cases h3 : (s.length : Int) = (r.length : Int) / 4
      · rw [if_pos h3, Option.bind_some, decide_eq_true h3]; rfl
      · rw [if_neg h3, decide_eq_false h3]; rfl

theorem impl_width (n : Int) : impl_isWidth.f n = some (widthB n) := by
  unfold impl_isWidth.f impl_in.f
  by_cases h1 : n ≥ 4
  · rw [if_pos h1, Option.bind_some]
    by_cases h2 : n ≤ 8
    · rw [decide_eq_true h2, if_pos rfl, tmod4 n h1 h2]
    · rw [decide_eq_false h2, if_neg (by simp), width_no n (by omega)]
  · rw [if_neg h1, Option.bind_some, if_neg (by simp), width_no n (by omega)]
theorem impl_row (r s : List Int) (hr : r.length ≤ 9223372036854775807) : impl_rowOk.f r s = some (rowB r s) := by
  unfold impl_rowOk.f impl_allIn.f rowB
  rw [impl_width, Option.bind_some, w64 (i := (r.length : Int) / 4) (by omega) (by omega)]
  cases h1 : widthB (r.length : Int) with
  | false => rfl
  | true =>
    rw [if_pos rfl, Option.bind_some]
    cases h2 : r.all fun z => decide (-8 ≤ z) && decide (z ≤ 7) with
    | false => simp
    | true =>
      rw [if_pos rfl]
      by_cases h3 : (s.length : Int) = (r.length : Int) / 4
      · rw [if_pos h3, Option.bind_some, decide_eq_true h3]; rfl
      · rw [if_neg h3, decide_eq_false h3]; rfl

def matB (w : Int) (R S : List (List Int)) (m h : Int) : Bool := widthB w && decide (R.length ≤ 300) && decide (S.length = R.length) && decide (0 ≤ m) && decide (m ≤ 65536) && decide (0 ≤ h) && decide (h ≤ 24) && (List.range R.length).all fun i => decide (((R.getD i []).length : Int) = w) && rowB (R.getD i []) (S.getD i [])
theorem mat_facts (w : Int) (R S : List (List Int)) (m h : Int) (g : matB w R S m h = true) : (w = 4 ∨ w = 8) ∧ R.length ≤ 300 ∧ S.length = R.length ∧ 0 ≤ m ∧ m ≤ 65536 ∧ 0 ≤ h ∧ h ≤ 24 ∧ ∀ i, i < R.length → ((R.getD i []).length : Int) = w ∧ rowB (R.getD i []) (S.getD i []) = true := by
  unfold matB at g
  simp only [Bool.and_eq_true, List.all_eq_true, decide_eq_true_eq, List.mem_range] at g
  exact ⟨width_facts _ g.1.1.1.1.1.1.1, g.1.1.1.1.1.1.2, g.1.1.1.1.1.2, g.1.1.1.1.2, g.1.1.1.2, g.1.1.2, g.1.2, fun i hi => g.2 i hi⟩
theorem all_range_from (P : Nat → Bool) (n i : Nat) (h : i < n) : ((List.range n).drop i).all P = (P i && ((List.range n).drop (i + 1)).all P) := by
  rw [List.drop_eq_getElem_cons (by simpa using h), List.all_cons, List.getElem_range]
theorem impl_mat_from (w : Int) (R S : List (List Int)) (m h : Int) (hl : R.length ≤ 300) (hs : S.length = R.length) (hlen : ∀ r ∈ R, r.length ≤ 9223372036854775807) (d : Nat) : ∀ (k i : Nat), i + d = R.length → d < k →
    impl_MatrixOk.l0 k R (R.length : Int) (i : Int) w R S m h = some (((List.range R.length).drop i).all fun i => decide (((R.getD i []).length : Int) = w) && rowB (R.getD i []) (S.getD i [])) := by
  induction d with
  | zero =>
    intro k i hi hk
    obtain ⟨k, rfl⟩ : ∃ m, k = m + 1 := ⟨k - 1, by omega⟩
    rw [impl_MatrixOk.l0, if_neg (by omega), List.drop_of_length_le (by simp; omega)]; rfl
  | succ d ih =>
    intro k i hi hk
    obtain ⟨k, rfl⟩ : ∃ m, k = m + 1 := ⟨k - 1, by omega⟩
    have hmem : (R.getD i []).length ≤ 9223372036854775807 := hlen _ (by rw [List.getD_eq_getElem?_getD, List.getElem?_eq_getElem (by omega)]; exact List.getElem_mem _)
    rw [impl_MatrixOk.l0, if_pos (by omega), if_pos (by omega), if_pos (by omega), all_range_from _ _ i (by omega)]
    show (if ((R.getD (i : Int).toNat []).length : Int) = w then _ else _) = _
    rw [Int.toNat_natCast]
    by_cases h1 : ((R.getD i []).length : Int) = w
    · rw [if_pos h1, if_pos (by omega), decide_eq_true h1]
      show ((impl_rowOk.f (R.getD (i : Int).toNat []) (S.getD (i : Int).toNat [])).bind _) = _
      rw [Int.toNat_natCast, impl_row _ _ hmem, Option.bind_some, w64 (by omega) (by omega), show ((i : Int) + 1) = ((i + 1 : Nat) : Int) by omega]
      cases hr : rowB (R.getD i []) (S.getD i []) with
      | true => rw [if_pos rfl, ih k (i + 1) (by omega) (by omega)]; rfl
      | false => rfl
    · rw [if_neg h1, decide_eq_false h1]; rfl
theorem impl_mat (w : Int) (R S : List (List Int)) (m h : Int) (hR : R.length ≤ 9223372036854775807) (hlen : ∀ r ∈ R, r.length ≤ 9223372036854775807) (k : Nat) (hk : 310 < k) : impl_MatrixOk.f k w R S m h = some (matB w R S m h) := by
  obtain ⟨k, rfl⟩ : ∃ m, k = m + 1 := ⟨k - 1, by omega⟩
  unfold impl_MatrixOk.f impl_in.f matB
  rw [impl_width, Option.bind_some]
  cases h1 : widthB w with
  | false => rw [if_neg (by simp), impl_MatrixOk.j0, if_pos rfl]; rfl
  | true =>
    rw [if_pos rfl]
    by_cases h2 : R.length ≤ 300
    · rw [if_neg (by omega), decide_eq_true h2]
      by_cases h3 : S.length = R.length
      · rw [if_pos (by omega), decide_eq_true h3]
        by_cases h4 : 0 ≤ m
        · rw [if_pos h4, Option.bind_some, decide_eq_true h4]
          by_cases h5 : m ≤ 65536
          · rw [decide_eq_true h5, if_pos rfl]
            by_cases h6 : 0 ≤ h
            · rw [if_pos h6, Option.bind_some, decide_eq_true h6]
              by_cases h7 : h ≤ 24
              · rw [decide_eq_true h7, impl_MatrixOk.j0, if_neg (by simp)]
                have := impl_mat_from w R S m h h2 h3 hlen R.length k 0 (by omega) (by omega)
                rw [List.drop_zero] at this
                exact this
              · rw [decide_eq_false h7, impl_MatrixOk.j0, if_pos (by rfl)]; rfl
            · rw [if_neg h6, Option.bind_some, impl_MatrixOk.j0, if_pos (by rfl), decide_eq_false h6]; rfl
          · rw [decide_eq_false h5, if_neg (by simp), impl_MatrixOk.j0, if_pos rfl]; rfl
        · rw [if_neg h4, Option.bind_some, if_neg (by simp), impl_MatrixOk.j0, if_pos rfl, decide_eq_false h4]; rfl
      · rw [if_neg (by omega), impl_MatrixOk.j0, if_pos rfl, decide_eq_false h3]; rfl
    · rw [if_pos (by omega), impl_MatrixOk.j0, if_pos rfl, decide_eq_false h2]; rfl

/-- what a row can come to at most. -/
def wstTo (r s : List Int) : Nat → Int
  | 0 => 0
  | n + 1 => wstTo r s n + rd s ((n / 4 : Nat) : Int) * 127 * ((rd r (n : Int)).natAbs : Int)
def wst (r s : List Int) : Int := if rowB r s = true then wstTo r s r.length else 0
theorem wst_term (r s : List Int) (h : rowB r s = true) (i : Nat) (hi : i < r.length) : 0 ≤ rd s ((i / 4 : Nat) : Int) * 127 ∧ rd s ((i / 4 : Nat) : Int) * 127 ≤ 16129 ∧ ((rd r (i : Int)).natAbs : Int) ≤ 8 ∧ 0 ≤ rd s ((i / 4 : Nat) : Int) * 127 * ((rd r (i : Int)).natAbs : Int) ∧ rd s ((i / 4 : Nat) : Int) * 127 * ((rd r (i : Int)).natAbs : Int) ≤ 129032 := by
  obtain ⟨h1, h2, h3, h4⟩ := row_facts r s h
  have a := h4 _ (rd_mem s (i / 4) (by omega))
  have b := h2 _ (rd_mem r i hi)
  have c : ((rd r (i : Int)).natAbs : Int) ≤ 8 := by omega
  have p0 : 0 ≤ rd s ((i / 4 : Nat) : Int) * 127 := by omega
  have p1 : rd s ((i / 4 : Nat) : Int) * 127 ≤ 16129 := by omega
  refine ⟨p0, p1, c, Int.mul_nonneg p0 (by omega), ?_⟩
  calc rd s ((i / 4 : Nat) : Int) * 127 * ((rd r (i : Int)).natAbs : Int) ≤ 16129 * ((rd r (i : Int)).natAbs : Int) := Int.mul_le_mul_of_nonneg_right p1 (by omega)
    _ ≤ 129032 := by omega
theorem wst_bd (r s : List Int) (h : rowB r s = true) : ∀ n, n ≤ r.length → 0 ≤ wstTo r s n ∧ wstTo r s n ≤ 129032 * (n : Int)
  | 0, _ => by unfold wstTo; omega
  | n + 1, hn => by
    have ih := wst_bd r s h n (by omega)
    obtain ⟨_, _, _, ht⟩ := wst_term r s h n (by omega)
    unfold wstTo
    omega
theorem spec_abs (x : Int) (h0 : -8 ≤ x) (h1 : x ≤ 7) : spec_l05Abs.f x = some (x.natAbs : Int) := by
  unfold spec_l05Abs.f
  by_cases c : x < 0
  · rw [if_pos c, w64 (by omega) (by omega)]; congr 1; omega
  · rw [if_neg c]; congr 1; omega
theorem impl_abs (x : Int) (h0 : -8 ≤ x) (h1 : x ≤ 7) : mx x (wrap64 (-x)) = (x.natAbs : Int) := by
  unfold mx
  rw [w64 (by omega) (by omega)]
  by_cases c : x < -x
  · rw [if_pos c]; omega
  · rw [if_neg c]; omega
theorem spec_wst_from (r s : List Int) (h : rowB r s = true) (d : Nat) : ∀ (k i : Nat), i + d = r.length → d < k → spec_Worst.l0 k r s (wstTo r s i) (i : Int) = some (wstTo r s r.length) := by
  obtain ⟨h1, h2, h3, h4⟩ := row_facts r s h
  induction d with
  | zero =>
    intro k i hi hk
    obtain ⟨k, rfl⟩ : ∃ m, k = m + 1 := ⟨k - 1, by omega⟩
    obtain rfl : i = r.length := by omega
    rw [spec_Worst.l0, if_neg (by omega)]
  | succ d ih =>
    intro k i hi hk
    obtain ⟨k, rfl⟩ : ∃ m, k = m + 1 := ⟨k - 1, by omega⟩
    obtain ⟨t1, t2, t3, t4, t5⟩ := wst_term r s h i (by omega)
    have hs := wst_bd r s h i (by omega)
    have b := h2 _ (rd_mem r i (by omega))
    rw [spec_Worst.l0, if_pos (by omega), tdiv4, w64 (i := ((i / 4 : Nat) : Int)) (by omega) (by omega), if_pos (by omega), if_pos (by omega), if_pos (by omega), spec_abs _ b.1 b.2, Option.bind_some, w64 (i := rd s ((i / 4 : Nat) : Int) * 127) (by omega) (by omega), w64 (i := rd s ((i / 4 : Nat) : Int) * 127 * _) (by omega) (by omega), w64 (i := wstTo r s i + _) (by omega) (by omega), w64 (i := (i : Int) + 1) (by omega) (by omega), show ((i : Int) + 1) = ((i + 1 : Nat) : Int) by omega]
    exact ih k (i + 1) (by omega) (by omega)
theorem impl_wst_from (r s : List Int) (h : rowB r s = true) (d : Nat) : ∀ (k i : Nat), i + d = r.length → d < k → impl_Worst.l0 k s (wstTo r s i) r (r.length : Int) (i : Int) = some (wstTo r s r.length) := by
  obtain ⟨h1, h2, h3, h4⟩ := row_facts r s h
  induction d with
  | zero =>
    intro k i hi hk
    obtain ⟨k, rfl⟩ : ∃ m, k = m + 1 := ⟨k - 1, by omega⟩
    obtain rfl : i = r.length := by omega
    rw [impl_Worst.l0, if_neg (by omega)]
  | succ d ih =>
    intro k i hi hk
    obtain ⟨k, rfl⟩ : ∃ m, k = m + 1 := ⟨k - 1, by omega⟩
    obtain ⟨t1, t2, t3, t4, t5⟩ := wst_term r s h i (by omega)
    have hs := wst_bd r s h i (by omega)
    have b := h2 _ (rd_mem r i (by omega))
    rw [impl_Worst.l0, if_pos (by omega), if_pos (by omega), if_pos (by omega), tdiv4, w64 (i := ((i / 4 : Nat) : Int)) (by omega) (by omega), if_pos (by omega), if_pos (by omega), impl_abs _ b.1 b.2, w64 (i := rd s ((i / 4 : Nat) : Int) * 127) (by omega) (by omega), w64 (i := rd s ((i / 4 : Nat) : Int) * 127 * _) (by omega) (by omega), w64 (i := wstTo r s i + _) (by omega) (by omega), w64 (i := (i : Int) + 1) (by omega) (by omega), show ((i : Int) + 1) = ((i + 1 : Nat) : Int) by omega]
    exact ih k (i + 1) (by omega) (by omega)
theorem spec_wst (r s : List Int) (hr : r.length ≤ 9223372036854775806) (hs : s.length ≤ 9223372036854775806) (k : Nat) (hk : r.length + s.length < k) (hk2 : 10 < k) : spec_Worst.f k r s = some (wst r s) := by
  unfold spec_Worst.f wst
  rw [spec_row r s hr hs k hk, Option.bind_some]
  by_cases h : rowB r s = true
  · obtain ⟨h1, h2, h3, h4⟩ := row_facts r s h
    rw [if_pos h, if_pos h]; exact spec_wst_from r s h r.length k 0 (by omega) (by omega)
  · rw [if_neg h, if_neg h]
theorem impl_wst (r s : List Int) (hr : r.length ≤ 9223372036854775807) (k : Nat) (hk2 : 10 < k) : impl_Worst.f k r s = some (wst r s) := by
  unfold impl_Worst.f wst
  rw [impl_row r s hr, Option.bind_some]
  by_cases h : rowB r s = true
  · obtain ⟨h1, h2, h3, h4⟩ := row_facts r s h
    rw [if_pos h, if_pos h]; exact impl_wst_from r s h r.length k 0 (by omega) (by omega)
  · rw [if_neg h, if_neg h]
theorem getD_mem (R : List (List Int)) (i : Nat) (h : i < R.length) : R.getD i [] ∈ R := by rw [List.getD_eq_getElem?_getD, List.getElem?_eq_getElem h]; exact List.getElem_mem _
theorem spec_mat_from (w : Int) (R S : List (List Int)) (m h : Int) (hl : R.length ≤ 300) (hs : S.length = R.length) (hR : ∀ r ∈ R, r.length ≤ 1048576) (hS : ∀ r ∈ S, r.length ≤ 1048576) (d : Nat) : ∀ (k i : Nat), i + d = R.length → d + 2097153 < k →
    spec_MatrixOk.l0 k (i : Int) w R S m h = some (((List.range R.length).drop i).all fun i => decide (((R.getD i []).length : Int) = w) && rowB (R.getD i []) (S.getD i [])) := by
  induction d with
  | zero =>
    intro k i hi hk
    obtain ⟨k, rfl⟩ : ∃ m, k = m + 1 := ⟨k - 1, by omega⟩
    rw [spec_MatrixOk.l0, if_neg (by omega), List.drop_of_length_le (by simp; omega)]; rfl
  | succ d ih =>
    intro k i hi hk
    obtain ⟨k, rfl⟩ : ∃ m, k = m + 1 := ⟨k - 1, by omega⟩
    have m1 := hR _ (getD_mem R i (by omega))
    have m2 := hS _ (getD_mem S i (by omega))
    rw [spec_MatrixOk.l0, if_pos (by omega), if_pos (by omega), all_range_from _ _ i (by omega)]
    show (if ((R.getD (i : Int).toNat []).length : Int) = w then _ else _) = _
    rw [Int.toNat_natCast]
    by_cases h1 : ((R.getD i []).length : Int) = w
    · rw [if_pos h1, if_pos (by omega), decide_eq_true h1]
      show ((spec_l05Fits.f k (R.getD (i : Int).toNat []) (S.getD (i : Int).toNat [])).bind _) = _
      rw [Int.toNat_natCast, spec_row _ _ (by omega) (by omega) k (by omega), Option.bind_some, w64 (by omega) (by omega), show ((i : Int) + 1) = ((i + 1 : Nat) : Int) by omega]
      cases hr : rowB (R.getD i []) (S.getD i []) with
      | true => rw [if_pos rfl, ih k (i + 1) (by omega) (by omega)]; rfl
      | false => rfl
    · rw [if_neg h1, decide_eq_false h1]; rfl
theorem spec_mat (w : Int) (R S : List (List Int)) (m h : Int) (hR : ∀ r ∈ R, r.length ≤ 1048576) (hS : ∀ r ∈ S, r.length ≤ 1048576) (k : Nat) (hk : 3000000 < k) : spec_MatrixOk.f k w R S m h = some (matB w R S m h) := by
  obtain ⟨k, rfl⟩ : ∃ m, k = m + 1 := ⟨k - 1, by omega⟩
  unfold spec_MatrixOk.f spec_l01In.f matB
  rw [spec_width, Option.bind_some]
  cases h1 : widthB w with
  | false => rw [if_neg (by simp), spec_MatrixOk.j0, if_pos rfl]; rfl
  | true =>
    rw [if_pos rfl]
    by_cases h2 : R.length ≤ 300
    · rw [if_neg (by omega), decide_eq_true h2]
      by_cases h3 : S.length = R.length
      · rw [if_pos (by omega), decide_eq_true h3]
        by_cases h4 : 0 ≤ m
        · rw [if_pos h4, Option.bind_some, decide_eq_true h4]
          by_cases h5 : m ≤ 65536
          · rw [decide_eq_true h5, if_pos rfl]
            by_cases h6 : 0 ≤ h
            · rw [if_pos h6, Option.bind_some, decide_eq_true h6]
              by_cases h7 : h ≤ 24
              · rw [decide_eq_true h7, spec_MatrixOk.j0, if_neg (by simp)]
                have := spec_mat_from w R S m h h2 h3 hR hS R.length k 0 (by omega) (by omega)
                rw [List.drop_zero] at this
                exact this
              · rw [decide_eq_false h7, spec_MatrixOk.j0, if_pos (by rfl)]; rfl
            · rw [if_neg h6, Option.bind_some, spec_MatrixOk.j0, if_pos (by rfl), decide_eq_false h6]; rfl
          · rw [decide_eq_false h5, if_neg (by simp), spec_MatrixOk.j0, if_pos rfl]; rfl
        · rw [if_neg h4, Option.bind_some, if_neg (by simp), spec_MatrixOk.j0, if_pos rfl, decide_eq_false h4]; rfl
      · rw [if_neg (by omega), spec_MatrixOk.j0, if_pos rfl, decide_eq_false h3]; rfl
    · rw [if_pos (by omega), spec_MatrixOk.j0, if_pos rfl, decide_eq_false h2]; rfl
/-- every row of a matrix comes to little enough. -/
def lowB (R S : List (List Int)) (i : Nat) : Bool := ((List.range R.length).drop i).all fun i => decide (wst (R.getD i []) (S.getD i []) ≤ 600000)
theorem spec_low_from (w : Int) (R S : List (List Int)) (m h : Int) (hl : R.length ≤ 300) (hs : S.length = R.length) (hR : ∀ r ∈ R, r.length ≤ 1048576) (hS : ∀ r ∈ S, r.length ≤ 1048576) (d : Nat) : ∀ (k i : Nat) (x : Int), i + d = R.length → d + 2097153 < k →
    ∃ v, spec_l10Worst.l0 k x (i : Int) w R S m h = some v ∧ (v ≤ 600000 ↔ x ≤ 600000 ∧ lowB R S i = true) := by
  induction d with
  | zero =>
    intro k i x hi hk
    obtain ⟨k, rfl⟩ : ∃ m, k = m + 1 := ⟨k - 1, by omega⟩
    rw [spec_l10Worst.l0, if_neg (by omega)]
    exact ⟨x, rfl, by unfold lowB; rw [List.drop_of_length_le (by simp; omega)]; simp⟩
  | succ d ih =>
    intro k i x hi hk
    obtain ⟨k, rfl⟩ : ∃ m, k = m + 1 := ⟨k - 1, by omega⟩
    have m1 := hR _ (getD_mem R i (by omega))
    have m2 := hS _ (getD_mem S i (by omega))
    rw [spec_l10Worst.l0, if_pos (by omega), if_pos (by omega), if_pos (by omega)]
    show ∃ v, ((spec_Worst.f k (R.getD (i : Int).toNat []) (S.getD (i : Int).toNat [])).bind _) = some v ∧ _
    rw [Int.toNat_natCast, spec_wst _ _ (by omega) (by omega) k (by omega) (by omega), Option.bind_some, w64 (by omega) (by omega), show ((i : Int) + 1) = ((i + 1 : Nat) : Int) by omega]
    have e : lowB R S i = (decide (wst (R.getD i []) (S.getD i []) ≤ 600000) && lowB R S (i + 1)) := by unfold lowB; rw [all_range_from _ _ i (by omega)]
    rw [e, Bool.and_eq_true, decide_eq_true_eq]
    by_cases c : wst (R.getD i []) (S.getD i []) > x
    · rw [if_pos c]
      obtain ⟨v, h1, h2⟩ := ih k (i + 1) (wst (R.getD i []) (S.getD i [])) (by omega) (by omega)
      exact ⟨v, h1, by rw [h2]; constructor <;> intro g <;> (obtain ⟨g1, g2⟩ := g; first | exact ⟨by omega, g1, g2⟩ | exact ⟨g2.1, g2.2⟩)⟩
    · rw [if_neg c]
      obtain ⟨v, h1, h2⟩ := ih k (i + 1) x (by omega) (by omega)
      exact ⟨v, h1, by rw [h2]; constructor <;> intro g <;> (obtain ⟨g1, g2⟩ := g; first | exact ⟨g1, by omega, g2⟩ | exact ⟨g1, g2.2⟩)⟩
theorem impl_low_from (w : Int) (R S : List (List Int)) (m h : Int) (hl : R.length ≤ 300) (hs : S.length = R.length) (hR : ∀ r ∈ R, r.length ≤ 1048576) (d : Nat) : ∀ (k i : Nat), i + d = R.length → d + 20 < k →
    impl_withinBudget.l0 k R (R.length : Int) (i : Int) w R S m h = some (lowB R S i) := by
  induction d with
  | zero =>
    intro k i hi hk
    obtain ⟨k, rfl⟩ : ∃ m, k = m + 1 := ⟨k - 1, by omega⟩
    rw [impl_withinBudget.l0, if_neg (by omega)]
    unfold lowB; rw [List.drop_of_length_le (by simp; omega)]; rfl
  | succ d ih =>
    intro k i hi hk
    obtain ⟨k, rfl⟩ : ∃ m, k = m + 1 := ⟨k - 1, by omega⟩
    have m1 := hR _ (getD_mem R i (by omega))
    rw [impl_withinBudget.l0, if_pos (by omega), if_pos (by omega), if_pos (by omega), if_pos (by omega)]
    show ((impl_Worst.f k (R.getD (i : Int).toNat []) (S.getD (i : Int).toNat [])).bind _) = _
    rw [Int.toNat_natCast, impl_wst _ _ (by omega) k (by omega), Option.bind_some, w64 (by omega) (by omega), show ((i : Int) + 1) = ((i + 1 : Nat) : Int) by omega]
    have e : lowB R S i = (decide (wst (R.getD i []) (S.getD i []) ≤ 600000) && lowB R S (i + 1)) := by unfold lowB; rw [all_range_from _ _ i (by omega)]
    rw [e]
    by_cases c : wst (R.getD i []) (S.getD i []) > 600000
    · rw [if_pos c, decide_eq_false (by omega)]; rfl
    · rw [if_neg c, decide_eq_true (by omega), Bool.true_and, ih k (i + 1) (by omega) (by omega)]
/-- a matrix of these bounds, of which every row comes to little enough. -/
def fitB (w : Int) (R S : List (List Int)) (m h a b : Int) : Bool := matB w R S m h && (decide (w = a) && (decide ((R.length : Int) = b) && lowB R S 0))
theorem spec_fit (w : Int) (R S : List (List Int)) (m h a b : Int) (hR : ∀ r ∈ R, r.length ≤ 1048576) (hS : ∀ r ∈ S, r.length ≤ 1048576) (k : Nat) (hk : 3000000 < k) : spec_l10Matrix.g k ⟨w, R, S, m, h⟩ a b = some (fitB w R S m h a b) := by
  unfold spec_l10Matrix.g fitB
  rw [spec_mat w R S m h hR hS k hk, Option.bind_some]
  by_cases h1 : matB w R S m h = true
  · obtain ⟨f1, f2, f3, _⟩ := mat_facts w R S m h h1
    rw [if_pos h1, h1, Bool.true_and]
    by_cases h2 : w = a
    · rw [if_pos h2, decide_eq_true h2, Bool.true_and]
      by_cases h3 : (R.length : Int) = b
      · rw [if_pos h3, decide_eq_true h3, Bool.true_and]
        obtain ⟨v, e1, e2⟩ := spec_low_from w R S m h f2 f3 hR hS R.length k 0 0 (by omega) (by omega)
        unfold spec_l10Worst.f
        rw [show (0 : Int) = ((0 : Nat) : Int) from rfl] at e1 ⊢
        rw [e1, Option.bind_some]
        congr 1
        cases g : lowB R S 0 with
        | true => exact decide_eq_true (e2.2 ⟨by omega, g⟩)
        | false => exact decide_eq_false (fun g2 => by have := (e2.1 g2).2; rw [g] at this; cases this)
      · rw [if_neg h3, decide_eq_false h3]; rfl
    · rw [if_neg h2, decide_eq_false h2]; rfl
  · rw [if_neg h1, Bool.eq_false_iff.mpr h1]; rfl
theorem impl_fit (w : Int) (R S : List (List Int)) (m h a b : Int) (hl : R.length ≤ 9223372036854775807) (hR : ∀ r ∈ R, r.length ≤ 1048576) (k : Nat) (hk : 1000 < k) : impl_withinBudget.f k w R S m h a b = some (fitB w R S m h a b) := by
  obtain ⟨k, rfl⟩ : ∃ m, k = m + 1 := ⟨k - 1, by omega⟩
  unfold impl_withinBudget.f fitB
  rw [impl_mat w R S m h hl (fun r hr => by have := hR r hr; omega) (k + 1) (by omega), Option.bind_some]
  by_cases h1 : matB w R S m h = true
  · obtain ⟨f1, f2, f3, _⟩ := mat_facts w R S m h h1
    rw [if_pos h1, h1, Bool.true_and]
    by_cases h2 : w = a
    · rw [if_pos h2, decide_eq_true h2, Bool.true_and, impl_withinBudget.j0]
      by_cases h3 : (R.length : Int) = b
      · rw [if_neg (by simp [h3]), decide_eq_true h3, Bool.true_and]
        exact impl_low_from w R S m h f2 f3 hR R.length k 0 (by omega) (by omega)
      · rw [if_pos (by simp [h3]), decide_eq_false h3]; rfl
    · rw [if_neg h2, decide_eq_false h2, impl_withinBudget.j0, if_pos rfl]; rfl
  · rw [if_neg h1, Bool.eq_false_iff.mpr h1, impl_withinBudget.j0, if_pos rfl]; rfl

theorem spec_gain (l : List Int) (n : Int) (hl : l.length ≤ 1048576) (k : Nat) (hk : l.length < k) : spec_GainOk.f k l n = impl_GainOk.f l n := by
  unfold spec_GainOk.f impl_GainOk.f impl_allIn.f
  rw [all_tells 0 127 l (by omega) k hk]
theorem impl_gain (l : List Int) (n : Int) : ∃ b, impl_GainOk.f l n = some b := by
  unfold impl_GainOk.f impl_allIn.f
  split <;> exact ⟨_, rfl⟩
def gainB (l : List Int) (n : Int) : Bool := if (l.length : Int) = n then l.all fun x => decide (0 ≤ x) && decide (x ≤ 127) else false
theorem impl_gainB (l : List Int) (n : Int) : impl_GainOk.f l n = some (gainB l n) := by
  unfold impl_GainOk.f impl_allIn.f gainB
  split <;> rfl
theorem spec_gainB (l : List Int) (n : Int) (hl : l.length ≤ 1048576) (k : Nat) (hk : l.length < k) : spec_GainOk.f k l n = some (gainB l n) := by rw [spec_gain l n hl k hk, impl_gainB]

theorem getD_int {α : Type} (l : List α) (z : α) (i : Nat) (h : i < l.length) : l.getD (i : Int).toNat z = l[i] := by simp [List.getD_eq_getElem?_getD, h]
/-- what the parts of a list come to. -/
def sumS {α : Type} (s : α → Nat) : List α → Nat
  | [] => 0
  | x :: l => s x + sumS s l
theorem sumS_le {α : Type} (s : α → Nat) : ∀ (l : List α) (x : α), x ∈ l → s x ≤ sumS s l
  | [], _, h => by cases h
  | y :: l, x, h => by
    have e : sumS s (y :: l) = s y + sumS s l := rfl
    rcases List.mem_cons.mp h with g | g
    · rw [g, e]; omega
    · have := sumS_le s l x g; rw [e]; omega
theorem sumS_cons {α : Type} (s : α → Nat) (x : α) (l : List α) : sumS s (x :: l) = s x + sumS s l := rfl
theorem sumS_append {α : Type} (s : α → Nat) : ∀ (l m : List α), sumS s (l ++ m) = sumS s l + sumS s m
  | [], m => by show sumS s m = 0 + sumS s m; omega
  | x :: l, m => by rw [List.cons_append, sumS_cons, sumS_cons, sumS_append s l m]; omega
theorem sumS_take {α : Type} (s : α → Nat) (z : α) (l : List α) (j : Nat) (h : j < l.length) : sumS s (l.take (j + 1)) = sumS s (l.take j) + s (l.getD (j : Int).toNat z) := by
  rw [List.take_succ_eq_append_getElem h, sumS_append, getD_int l z j h]; rfl
theorem sumS_take_le {α : Type} (s : α → Nat) (l : List α) (j : Nat) : sumS s (l.take j) ≤ sumS s l := by
  have := sumS_append s (l.take j) (l.drop j); rw [List.take_append_drop] at this; omega
/-- a list's size: its length and its parts'. -/
def szL {α : Type} (s : α → Nat) (l : List α) : Nat := l.length + sumS s l
/-- how a size is taken off: none is left, or the rest. -/
def lessS (n : Int) (s : Nat) : Option Int := some (if n < (s : Int) then -1 else n - (s : Int))
theorem sz_then {p : Option Int} {G : Int → Option Int} {n : Int} {a b : Nat} (h : p = lessS n a) (h0 : 0 ≤ n) (hG : (a : Int) ≤ n → G (n - a) = lessS (n - a) b) :
    (p.bind fun t => if t < 0 then some (-1) else G t) = lessS n (a + b) := by
  rw [h]; unfold lessS; rw [Option.bind_some]
  by_cases c : n < (a : Int)
  · rw [if_pos c, if_pos (by omega), if_pos (by omega)]
  · rw [if_neg c, if_neg (by omega), hG (by omega)]
    unfold lessS
    by_cases d : n - (a : Int) < (b : Int)
    · rw [if_pos d, if_pos (by omega)]
    · rw [if_neg d, if_neg (by omega)]; congr 1; omega
theorem sz_end {p : Option Int} {n : Int} {a : Nat} (h : p = lessS n a) (h0 : 0 ≤ n) : (p.bind fun t => if t < 0 then some (-1) else some t) = lessS n a := by
  have := sz_then (G := fun t => some t) (b := 0) h h0 (fun g => by unfold lessS; rw [if_neg (by omega)]; congr 1; omega)
  simpa using this
theorem sz_law {p : Option Int} {G : Int → Option Bool} {n : Int} {a : Nat} (h : p = lessS n a) (hG : (a : Int) ≤ n → G (n - a) = some true) :
    (p.bind fun t => if t < 0 then some true else G t) = some true := by
  rw [h]; unfold lessS; rw [Option.bind_some]
  by_cases c : n < (a : Int)
  · rw [if_pos c, if_pos (by omega)]
  · rw [if_neg c, if_neg (by omega), hG (by omega)]
section
variable {α : Type} (z : α) (F : Nat → List α → Int → Int → Option Int) (E : Nat → α → Int → Option Int) (s : α → Nat) (ok : α → Prop)
theorem sz_from (hF : ∀ k xs n i, F (k + 1) xs n i = if i < (xs.length : Int) then (if 0 ≤ i then ((E k (xs.getD i.toNat z) n).bind fun t => (if t < 0 then (some (-1)) else (F k xs t (wrap64 (i + 1))))) else none) else some n)
    (hE : ∀ k x n, ok x → s x < k → 0 ≤ n → n ≤ 1048576 → E k x n = lessS n (s x)) (xs : List α) (hl : xs.length ≤ 9223372036854775807) (hok : ∀ x ∈ xs, ok x) (d : Nat) :
    ∀ (k i : Nat) (n : Int), i ≤ xs.length → xs.length - i = d → d + sumS s (xs.drop i) < k → 0 ≤ n → n ≤ 1048576 → F k xs n (i : Int) = lessS n (sumS s (xs.drop i)) := by
  induction d with
  | zero =>
    intro k i n hi hd hk h0 h1
    obtain ⟨k, rfl⟩ : ∃ m, k = m + 1 := ⟨k - 1, by omega⟩
    rw [hF, if_neg (by omega), List.drop_of_length_le (by omega)]
    unfold lessS sumS; rw [if_neg (by omega)]; simp
  | succ d ih =>
    intro k i n hi hd hk h0 h1
    obtain ⟨k, rfl⟩ : ∃ m, k = m + 1 := ⟨k - 1, by omega⟩
    have hlt : i < xs.length := by omega
    rw [List.drop_eq_getElem_cons hlt, sumS_cons] at hk ⊢
    rw [hF, if_pos (by omega), if_pos (by omega), getD_int xs z i hlt]
    refine sz_then (hE k xs[i] n (hok _ (List.getElem_mem hlt)) (by omega) h0 h1) h0 fun g => ?_
    rw [w64 (by omega) (by omega), show ((i : Int) + 1) = ((i + 1 : Nat) : Int) by omega]
    exact ih k (i + 1) _ (by omega) (by omega) (by omega) (by omega) (by omega)
/-- the size of a list is taken off. -/
theorem sz_list (hF : ∀ k xs n i, F (k + 1) xs n i = if i < (xs.length : Int) then (if 0 ≤ i then ((E k (xs.getD i.toNat z) n).bind fun t => (if t < 0 then (some (-1)) else (F k xs t (wrap64 (i + 1))))) else none) else some n)
    (hE : ∀ k x n, ok x → s x < k → 0 ≤ n → n ≤ 1048576 → E k x n = lessS n (s x)) (k : Nat) (xs : List α) (n : Int) (hok : xs.length ≤ 9223372036854775807 ∧ ∀ x ∈ xs, ok x) (hk : szL s xs < k) (h0 : 0 ≤ n) (h1 : n ≤ 1048576) :
    (if (wrap64 (n - (xs.length : Int))) < 0 then (some (-1)) else (F k xs (wrap64 (n - (xs.length : Int))) 0)) = lessS n (szL s xs) := by
  have hl := hok.1
  rw [w64 (i := n - (xs.length : Int)) (by omega) (by omega)]
  unfold szL at hk ⊢
  by_cases c : n - (xs.length : Int) < 0
  · rw [if_pos c]; unfold lessS; rw [if_pos (by omega)]
  · rw [if_neg c]
    have := sz_from z F E s ok hF hE xs (by omega) hok.2 xs.length k 0 (n - xs.length) (by omega) (by omega) (by rw [List.drop_zero]; omega) (by omega) (by omega)
    rw [List.drop_zero] at this
    rw [show (0 : Int) = ((0 : Nat) : Int) from rfl, this]
    unfold lessS
    by_cases d : n - (xs.length : Int) < (sumS s xs : Int)
    · rw [if_pos d, if_pos (by omega)]
    · rw [if_neg d, if_neg (by omega)]; congr 1; omega
end
section
variable {α β γ : Type} (z : α) (zb : β) (F : Nat → List α → List β → Int → Option (List β)) (E : Nat → α → Option γ) (c : γ → β) (g : α → β) (s : α → Nat) (ok : α → Prop)
theorem to_from2 (hF : ∀ k xs ys i, F (k + 1) xs ys i = if i < (xs.length : Int) then (if 0 ≤ i then ((E k (xs.getD i.toNat z)).bind fun t => (if i < (ys.length : Int) then (F k xs (ys.set (i : Int).toNat (c t)) (wrap64 (i + 1))) else none)) else none) else some ys)
    (hE : ∀ k x, ok x → s x < k → ∃ t, E k x = some t ∧ c t = g x) (xs : List α) (hl : xs.length ≤ 9223372036854775807) (hok : ∀ x ∈ xs, ok x) (d : Nat) :
    ∀ (k i : Nat), i ≤ xs.length → xs.length - i = d → d + sumS s (xs.drop i) < k → F k xs ((xs.take i).map g ++ List.replicate (xs.length - i) zb) (i : Int) = some (xs.map g) := by
  induction d with
  | zero =>
    intro k i hi hd hk
    obtain ⟨k, rfl⟩ : ∃ m, k = m + 1 := ⟨k - 1, by omega⟩
    rw [hF, if_neg (by omega), List.take_of_length_le (by omega), hd]; simp
  | succ d ih =>
    intro k i hi hd hk
    obtain ⟨k, rfl⟩ : ∃ m, k = m + 1 := ⟨k - 1, by omega⟩
    have hlt : i < xs.length := by omega
    rw [List.drop_eq_getElem_cons hlt, sumS_cons] at hk
    obtain ⟨t, e1, e2⟩ := hE k xs[i] (hok _ (List.getElem_mem hlt)) (by omega)
    rw [hF, if_pos (by omega), if_pos (by omega), getD_int xs z i hlt, e1, Option.bind_some, if_pos (by simp; omega), w64 (by omega) (by omega), show ((i : Int) + 1) = ((i + 1 : Nat) : Int) by omega, e2]
    have e : ((xs.take i).map g ++ List.replicate (xs.length - i) zb).set (i : Int).toNat (g xs[i]) = (xs.take (i + 1)).map g ++ List.replicate (xs.length - (i + 1)) zb := by
      rw [Int.toNat_natCast, List.set_append_right _ _ (by simp; omega), show xs.length - i = (xs.length - (i + 1)) + 1 by omega, List.replicate_succ, List.length_map, List.length_take, Nat.min_eq_left (by omega), Nat.sub_self, List.set_cons_zero, List.take_succ_eq_append_getElem hlt, List.map_append, List.append_assoc]
      rfl
    rw [e]
    exact ih k (i + 1) (by omega) (by omega) (by omega)
/-- a list is turned into one of the other kind, part by part. -/
theorem to_list (hF : ∀ k xs ys i, F (k + 1) xs ys i = if i < (xs.length : Int) then (if 0 ≤ i then ((E k (xs.getD i.toNat z)).bind fun t => (if i < (ys.length : Int) then (F k xs (ys.set (i : Int).toNat (c t)) (wrap64 (i + 1))) else none)) else none) else some ys)
    (hE : ∀ k x, ok x → s x < k → ∃ t, E k x = some t ∧ c t = g x) (M : Nat) (k : Nat) (xs : List α) (hok : xs.length ≤ 9223372036854775807 ∧ ∀ x ∈ xs, ok x) (hM : xs.length ≤ M) (hk : szL s xs < k) :
    (if 0 ≤ (xs.length : Int) then (if ((xs.length : Int) : Int).toNat ≤ M then (F k xs (List.replicate ((xs.length : Int) : Int).toNat zb) 0) else none) else none) = some (xs.map g) := by
  rw [if_pos (by omega), if_pos (by omega), Int.toNat_natCast]
  unfold szL at hk
  have := to_from2 z zb F E c g s ok hF hE xs hok.1 hok.2 xs.length k 0 (by omega) (by omega) (by rw [List.drop_zero]; omega)
  simpa using this
end
section
variable {α : Type} (z : α) (F : Nat → List α → List α → Int → Option Bool) (E : Nat → α → Option Bool) (s : α → Nat)
theorem eq_from2 (hF : ∀ k xs i, F (k + 1) xs xs i = if i < (xs.length : Int) then (if 0 ≤ i then (if i < (xs.length : Int) then ((E k (xs.getD i.toNat z)).bind fun t => (if t = true then (F k xs xs (wrap64 (i + 1))) else (some false))) else none) else none) else some true)
    (xs : List α) (hE : ∀ k, ∀ x ∈ xs, s x < k → E k x = some true) (hl : xs.length ≤ 9223372036854775807) (d : Nat) :
    ∀ (k i : Nat), i ≤ xs.length → xs.length - i = d → d + sumS s (xs.drop i) < k → F k xs xs (i : Int) = some true := by
  induction d with
  | zero =>
    intro k i hi hd hk
    obtain ⟨k, rfl⟩ : ∃ m, k = m + 1 := ⟨k - 1, by omega⟩
    rw [hF, if_neg (by omega)]
  | succ d ih =>
    intro k i hi hd hk
    obtain ⟨k, rfl⟩ : ∃ m, k = m + 1 := ⟨k - 1, by omega⟩
    have hlt : i < xs.length := by omega
    rw [List.drop_eq_getElem_cons hlt, sumS_cons] at hk
    rw [hF, if_pos (by omega), if_pos (by omega), if_pos (by omega), getD_int xs z i hlt, hE k xs[i] (List.getElem_mem hlt) (by omega), Option.bind_some, if_pos rfl, w64 (by omega) (by omega), show ((i : Int) + 1) = ((i + 1 : Nat) : Int) by omega]
    exact ih k (i + 1) (by omega) (by omega) (by omega)
/-- a list is its own like, part by part. -/
theorem eq_list (hF : ∀ k xs i, F (k + 1) xs xs i = if i < (xs.length : Int) then (if 0 ≤ i then (if i < (xs.length : Int) then ((E k (xs.getD i.toNat z)).bind fun t => (if t = true then (F k xs xs (wrap64 (i + 1))) else (some false))) else none) else none) else some true)
    (k : Nat) (xs : List α) (hE : ∀ k, ∀ x ∈ xs, s x < k → E k x = some true) (hl : xs.length ≤ 9223372036854775807) (hk : szL s xs < k) :
    (if (xs.length : Int) = (xs.length : Int) then (F k xs xs 0) else (some false)) = some true := by
  rw [if_pos rfl]
  unfold szL at hk
  exact eq_from2 z F E s hF xs hE hl xs.length k 0 (by omega) (by omega) (by rw [List.drop_zero]; omega)
end

theorem szInts_tells (l : List Int) (hl : l.length ≤ 9223372036854775807) (n : Int) (h0 : 0 ≤ n) (h1 : n ≤ 1048576) : laws_szIntS.f l n = lessS n l.length := by
  unfold laws_szIntS.f lessS
  rw [w64 (i := n - (l.length : Int)) (by omega) (by omega)]
  by_cases c : n < (l.length : Int)
  · rw [if_pos c, if_pos (by omega)]
  · rw [if_neg c, if_neg (by omega)]

theorem to_from (l : List Int) (hl : l.length ≤ 9223372036854775806) (d : Nat) : ∀ (k i : Nat), i ≤ l.length → l.length - i = d → d < k →
    laws_toIntS.l0 k l (l.take i ++ List.replicate (l.length - i) 0) (i : Int) = some l := by
  induction d with
  | zero =>
    intro k i hi' hd hk
    obtain ⟨k, rfl⟩ : ∃ m, k = m + 1 := ⟨k - 1, by omega⟩
    simp only [laws_toIntS.l0]; rw [if_neg (by omega), List.take_of_length_le (by omega), hd]; simp
  | succ d ih =>
    intro k i hi' hd hk
    obtain ⟨k, rfl⟩ : ∃ m, k = m + 1 := ⟨k - 1, by omega⟩
    have hlt : i < l.length := by omega
    simp only [laws_toIntS.l0]
    rw [if_pos (by omega), if_pos (by omega), if_pos (by simp; omega), rd_get l i hlt, w64 (by omega) (by omega), show ((i : Int) + 1) = ((i + 1 : Nat) : Int) by omega]
    have e : (l.take i ++ List.replicate (l.length - i) (0 : Int)).set (i : Int).toNat l[i] = l.take (i + 1) ++ List.replicate (l.length - (i + 1)) 0 := by
      rw [Int.toNat_natCast, List.set_append_right _ _ (by simp; omega), show l.length - i = (l.length - (i + 1)) + 1 by omega, List.replicate_succ, List.length_take, Nat.min_eq_left (by omega), Nat.sub_self, List.set_cons_zero, List.take_succ_eq_append_getElem hlt, List.append_assoc]
      rfl
    rw [e]
    exact ih k (i + 1) (by omega) (by omega) (by omega)
/-- laws.toIntS: a copy. -/
theorem to_tells (l : List Int) (hl : l.length ≤ 35184372088832) (k : Nat) (hk : l.length < k) : laws_toIntS.f k l = some l := by
  unfold laws_toIntS.f
  rw [if_pos (by omega), if_pos (by simpa using hl), Int.toNat_natCast]
  have := to_from l (by omega) l.length k 0 (by omega) (by omega) hk
  simpa using this


theorem eq_from (a b : List Int) (hl : a.length ≤ 9223372036854775806) (hab : a.length = b.length) (d : Nat) : ∀ (k i : Nat), i ≤ a.length → a.length - i = d → d < k →
    laws_eqIntS.l0 k a b (i : Int) = some (decide (a.drop i = b.drop i)) := by
  induction d with
  | zero =>
    intro k i hi' hd hk
    obtain ⟨k, rfl⟩ : ∃ m, k = m + 1 := ⟨k - 1, by omega⟩
    rw [List.drop_of_length_le (by omega), List.drop_of_length_le (by omega)]
    simp only [laws_eqIntS.l0]; rw [if_neg (by omega)]; simp
  | succ d ih =>
    intro k i hi' hd hk
    obtain ⟨k, rfl⟩ : ∃ m, k = m + 1 := ⟨k - 1, by omega⟩
    have hlt : i < a.length := by omega
    have hltb : i < b.length := by omega
    simp only [laws_eqIntS.l0]
    rw [if_pos (by omega), if_pos (by omega), if_pos (by omega), rd_get a i hlt, rd_get b i hltb, List.drop_eq_getElem_cons hlt, List.drop_eq_getElem_cons hltb]
    by_cases h : a[i] = b[i]
    · rw [if_pos h, w64 (by omega) (by omega), show ((i : Int) + 1) = ((i + 1 : Nat) : Int) by omega, ih k (i + 1) (by omega) (by omega) (by omega)]
      congr 1
      rw [decide_eq_decide]
      simp only [h, List.cons.injEq, true_and]
    · rw [if_neg h, decide_eq_false (fun e => h (List.cons.inj e).1)]
/-- laws.eqIntS: equal lists. -/
theorem eq_tells (a b : List Int) (hl : a.length ≤ 9223372036854775806) (k : Nat) (hk : a.length < k) : laws_eqIntS.f k a b = some (decide (a = b)) := by
  unfold laws_eqIntS.f
  by_cases h : a.length = b.length
  · rw [if_pos (by omega)]
    have := eq_from a b hl h a.length k 0 (by omega) (by omega) hk
    simpa using this
  · rw [if_neg (by omega), decide_eq_false]
    intro e; rw [e] at h; exact h rfl


def mIntss : List (List Int) → Nat := szL (fun l => l.length)
theorem eqIntSS_same (k : Nat) (x : List (List Int)) (h : mIntss x ≤ 9000000) (hk : mIntss x < k) : laws_eqIntSS.f k x x = some true :=
  eq_list [] laws_eqIntSS.l0 (fun k x => laws_eqIntS.f k x x) (fun l => l.length) (fun _ _ _ => rfl) k x (fun k y hy h' => by
    have := sumS_le (fun l : List Int => l.length) x y hy
    have e : mIntss x = x.length + sumS (fun l => l.length) x := rfl
    rw [eq_tells y y (by omega) k h', decide_eq_true rfl]) (by have e : mIntss x = x.length + sumS (fun l => l.length) x := rfl; omega) hk

theorem mIntss_eq (x : List (List Int)) : mIntss x = x.length + sumS (fun l => l.length) x := rfl
theorem sumS_map_sum (x : List (List Int)) : sumS (fun l : List Int => l.length) x = (x.map List.length).sum := by
  induction x with
  | nil => rfl
  | cons a x ih => rw [sumS_cons, ih, List.map_cons, List.sum_cons]


theorem szIntSS_less (k : Nat) (x : List (List Int)) (n : Int) (hx : x.length ≤ 9223372036854775807) (hxx : ∀ y ∈ x, y.length ≤ 9223372036854775807) (hk : mIntss x < k) (h0 : 0 ≤ n) (h1 : n ≤ 1048576) : laws_szIntSS.f k x n = lessS n (mIntss x) :=
  sz_list [] laws_szIntSS.l0 (fun _ y n => laws_szIntS.f y n) (fun l => l.length) (fun y => y.length ≤ 9223372036854775807) (fun _ _ _ _ => rfl) (fun _ y n hy _ h0 h1 => by
    unfold laws_szIntS.f lessS
    rw [w64 (by omega) (by omega)]
    by_cases c : n - (y.length : Int) < 0
    · rw [if_pos c, if_pos (by omega)]
    · rw [if_neg c, if_neg (by omega)]) k x n ⟨hx, hxx⟩ hk h0 h1
theorem toIntSS_same (k : Nat) (x : List (List Int)) (h : mIntss x ≤ 9000000) (hk : mIntss x < k) : laws_toIntSS.f k x = some x := by
  have e := mIntss_eq x
  have := to_list [] [] laws_toIntSS.l0 (fun k y => laws_toIntS.f k y) id id (fun l : List Int => l.length) (fun y => y.length ≤ 9000000) (fun _ _ _ _ => rfl) (fun k y hy h' => ⟨y, to_tells y (by omega) k h', rfl⟩) 11728124029610 k x ⟨by omega, fun y hy => by have := sumS_le (fun l : List Int => l.length) x y hy; omega⟩ (by omega) hk
  unfold laws_toIntSS.f
  rw [List.map_id] at this
  exact this

def mMatrix (x : S30) : Nat := mIntss x.f1 + mIntss x.f2
def mLayer (x : S78) : Nat := x.f0.length + (mMatrix x.f1 + (mMatrix x.f2 + (mMatrix x.f3 + (mMatrix x.f4 + (x.f5.length + (mMatrix x.f6 + mMatrix x.f7))))))
def gMatrix (x : S30) : S44 := ⟨x.f0, x.f1, x.f2, x.f3, x.f4⟩
def gLayer (x : S78) : S86 := ⟨x.f0, gMatrix x.f1, gMatrix x.f2, gMatrix x.f3, gMatrix x.f4, x.f5, gMatrix x.f6, gMatrix x.f7⟩
/-- what is left of n when s is taken off. -/
def lessV (n : Int) (s : Nat) : Int := if n < (s : Int) then -1 else n - (s : Int)
theorem lessV_lt {n : Int} {s : Nat} (h : n < (s : Int)) : lessV n s = -1 := if_pos h
theorem lessV_ge {n : Int} {s : Nat} (h : ¬ n < (s : Int)) : lessV n s = n - (s : Int) := if_neg h
theorem szIntss_ok (k : Nat) (x : List (List Int)) (n : Int) (ok : okT26 x) (hk : mIntss x < k) (h0 : 0 ≤ n) (h1 : n ≤ 1048576) : laws_szIntSS.f k x n = lessS n (mIntss x) :=
  szIntSS_less k x n ok.1 (fun y hy => (ok.2 y hy).1) hk h0 h1
theorem szMatrix_m (k : Nat) (x : S30) (n : Int) (ok : okT30 x) (hk : mMatrix x < k) (h0 : 0 ≤ n) (h1 : n ≤ 1048576) : laws_szMatrix.g k x n = lessS n (mMatrix x) := by
  have h : mMatrix x = mIntss x.f1 + mIntss x.f2 := rfl
  exact sz_then (szIntss_ok k x.f1 n ok.2.1 (by omega) h0 h1) h0 fun g => sz_end (szIntss_ok k x.f2 _ ok.2.2.1 (by omega) (by omega) (by omega)) (by omega)
theorem toMatrix_m (k : Nat) (x : S30) (h : mMatrix x ≤ 1048576) (hk : mMatrix x < k) : laws_toMatrix.g k x = some (gMatrix x) := by
  have g : mMatrix x = mIntss x.f1 + mIntss x.f2 := rfl
  unfold laws_toMatrix.g
  rw [toIntSS_same k x.f1 (by omega) (by omega), Option.bind_some, toIntSS_same k x.f2 (by omega) (by omega), Option.bind_some]; rfl
def iMatrix (x : S44) : Nat := mIntss x.f1 + mIntss x.f2
def iLayer (x : S86) : Nat := x.f0.length + (iMatrix x.f1 + (iMatrix x.f2 + (iMatrix x.f3 + (iMatrix x.f4 + (x.f5.length + (iMatrix x.f6 + iMatrix x.f7))))))
theorem sumS_map' {α β : Type} (g : α → β) (s : α → Nat) (t : β → Nat) (h : ∀ x, t (g x) = s x) : ∀ l : List α, sumS t (l.map g) = sumS s l
  | [] => rfl
  | x :: l => by rw [List.map_cons, sumS_cons, sumS_cons, h, sumS_map' g s t h l]
theorem i_layer (x : S78) : iLayer (gLayer x) = mLayer x := rfl
theorem eqMatrix_i (k : Nat) (x : S44) (h : iMatrix x ≤ 1048576) (hk : iMatrix x < k) : laws_eqMatrix.g k x x = some true := by
  have g : iMatrix x = mIntss x.f1 + mIntss x.f2 := rfl
  unfold laws_eqMatrix.g
  rw [if_pos rfl, eqIntSS_same k x.f1 (by omega) (by omega), Option.bind_some, if_pos rfl, eqIntSS_same k x.f2 (by omega) (by omega), Option.bind_some, if_pos rfl, if_pos rfl, if_pos rfl]
theorem eqInts_i (k : Nat) (x : List Int) (h : x.length ≤ 1048576) (hk : x.length < k) : laws_eqIntS.f k x x = some true := by rw [eq_tells x x (by omega) k hk, decide_eq_true rfl]

theorem szLayer_g (k : Nat) (x : S78) (n : Int) (ok : okT78 x) (hk : mLayer x < k) (h0 : 0 ≤ n) (h1 : n ≤ 1048576) : laws_szLayer.g k x n = lessS n (mLayer x) := by
  have h : mLayer x = x.f0.length + (mMatrix x.f1 + (mMatrix x.f2 + (mMatrix x.f3 + (mMatrix x.f4 + (x.f5.length + (mMatrix x.f6 + mMatrix x.f7)))))) := rfl
  obtain ⟨o0, o1, o2, o3, o4, o5, o6, o7⟩ := ok
  unfold laws_szLayer.g
  rw [h]
  exact sz_then (szInts_tells x.f0 o0.1 n h0 h1) h0 fun g0 => sz_then (szMatrix_m k x.f1 _ o1 (by omega) (by omega) (by omega)) (by omega) fun g1 => sz_then (szMatrix_m k x.f2 _ o2 (by omega) (by omega) (by omega)) (by omega) fun g2 =>
    sz_then (szMatrix_m k x.f3 _ o3 (by omega) (by omega) (by omega)) (by omega) fun g3 => sz_then (szMatrix_m k x.f4 _ o4 (by omega) (by omega) (by omega)) (by omega) fun g4 => sz_then (szInts_tells x.f5 o5.1 _ (by omega) (by omega)) (by omega) fun g5 =>
    sz_then (szMatrix_m k x.f6 _ o6 (by omega) (by omega) (by omega)) (by omega) fun g6 => sz_end (szMatrix_m k x.f7 _ o7 (by omega) (by omega) (by omega)) (by omega)
theorem toLayer_g (k : Nat) (x : S78) (h : mLayer x ≤ 1048576) (hk : mLayer x < k) : laws_toLayer.g k x = some (gLayer x) := by
  have g : mLayer x = x.f0.length + (mMatrix x.f1 + (mMatrix x.f2 + (mMatrix x.f3 + (mMatrix x.f4 + (x.f5.length + (mMatrix x.f6 + mMatrix x.f7)))))) := rfl
  unfold laws_toLayer.g
  rw [to_tells x.f0 (by omega) k (by omega), Option.bind_some, toMatrix_m k x.f1 (by omega) (by omega), Option.bind_some, toMatrix_m k x.f2 (by omega) (by omega), Option.bind_some, toMatrix_m k x.f3 (by omega) (by omega), Option.bind_some, toMatrix_m k x.f4 (by omega) (by omega), Option.bind_some,
    to_tells x.f5 (by omega) k (by omega), Option.bind_some, toMatrix_m k x.f6 (by omega) (by omega), Option.bind_some, toMatrix_m k x.f7 (by omega) (by omega), Option.bind_some]
  rfl
theorem eqLayer_g (k : Nat) (x : S86) (h : iLayer x ≤ 1048576) (hk : iLayer x < k) : laws_eqLayer.g k x x = some true := by
  have g : iLayer x = x.f0.length + (iMatrix x.f1 + (iMatrix x.f2 + (iMatrix x.f3 + (iMatrix x.f4 + (x.f5.length + (iMatrix x.f6 + iMatrix x.f7)))))) := rfl
  unfold laws_eqLayer.g
  rw [eqInts_i k x.f0 (by omega) (by omega), Option.bind_some, if_pos rfl, eqMatrix_i k x.f1 (by omega) (by omega), Option.bind_some, if_pos rfl, eqMatrix_i k x.f2 (by omega) (by omega), Option.bind_some, if_pos rfl, eqMatrix_i k x.f3 (by omega) (by omega), Option.bind_some, if_pos rfl,
    eqMatrix_i k x.f4 (by omega) (by omega), Option.bind_some, if_pos rfl, eqInts_i k x.f5 (by omega) (by omega), Option.bind_some, if_pos rfl, eqMatrix_i k x.f6 (by omega) (by omega), Option.bind_some, if_pos rfl, eqMatrix_i k x.f7 (by omega) (by omega), Option.bind_some, if_pos rfl]

theorem mat_rows (x : S44) (h : iMatrix x ≤ 1048576) : x.f1.length ≤ 1048576 ∧ (∀ r ∈ x.f1, r.length ≤ 1048576) ∧ ∀ r ∈ x.f2, r.length ≤ 1048576 := by
  unfold iMatrix at h
  have e1 := mIntss_eq x.f1
  have e2 := mIntss_eq x.f2
  unfold szL at e1 e2
  refine ⟨by omega, fun r hr => ?_, fun r hr => ?_⟩
  · have := sumS_le (fun l : List Int => l.length) x.f1 r hr; omega
  · have := sumS_le (fun l : List Int => l.length) x.f2 r hr; omega
def mfit (x : S44) (a b : Int) : Bool := fitB x.f0 x.f1 x.f2 x.f3 x.f4 a b
theorem spec_mfit (x : S44) (a b : Int) (h : iMatrix x ≤ 1048576) (k : Nat) (hk : 3000000 < k) : spec_l10Matrix.g k x a b = some (mfit x a b) := by
  obtain ⟨h1, h2, h3⟩ := mat_rows x h
  exact spec_fit _ _ _ _ _ _ _ h2 h3 k hk
theorem impl_mfit (x : S44) (a b : Int) (h : iMatrix x ≤ 1048576) (k : Nat) (hk : 1000 < k) : impl_withinBudget.f k x.f0 x.f1 x.f2 x.f3 x.f4 a b = some (mfit x a b) := by
  obtain ⟨h1, h2, h3⟩ := mat_rows x h
  exact impl_fit _ _ _ _ _ _ _ (by omega) h2 k hk
def layerB (x : S86) (n : Int) : Bool := gainB x.f0 n && (gainB x.f5 n && (widthB (x.f6.f1.length : Int) && (mfit x.f1 n n && (mfit x.f2 n n && (mfit x.f3 n n && (mfit x.f4 n n && (mfit x.f6 n (x.f6.f1.length : Int) && mfit x.f7 (x.f6.f1.length : Int) n)))))))
theorem mfit_width (x : S44) (a b : Int) (h : mfit x a b = true) : widthB a = true := by
  unfold mfit fitB at h
  simp only [Bool.and_eq_true, decide_eq_true_eq] at h
  obtain ⟨h1, h2, _⟩ := h
  unfold matB at h1
  simp only [Bool.and_eq_true] at h1
  rw [← h2]; exact h1.1.1.1.1.1.1.1
theorem if_and (a : Bool) (b : Option Bool) (c : Bool) (h : a = true → b = some c) : (if a = true then b else some false) = some (a && c) := by
  cases a with
  | false => rfl
  | true => rw [if_pos rfl, h rfl]; rfl
theorem bind_and (p : Option Bool) (a : Bool) (b : Option Bool) (c : Bool) (hp : p = some a) (h : a = true → b = some c) : (p.bind fun t => if t = true then b else some false) = some (a && c) := by
  rw [hp, Option.bind_some]; exact if_and a b c h
theorem spec_layer (x : S86) (n : Int) (h : iLayer x ≤ 1048576) (k : Nat) (hk : 3000000 < k) : spec_LayerOk.g k x n = some (layerB x n) := by
  have e : iLayer x = x.f0.length + (iMatrix x.f1 + (iMatrix x.f2 + (iMatrix x.f3 + (iMatrix x.f4 + (x.f5.length + (iMatrix x.f6 + iMatrix x.f7)))))) := rfl
  have g : spec_LayerOk.g k x n = some (widthB n && (widthB (x.f6.f1.length : Int) && (gainB x.f0 n && (gainB x.f5 n && (mfit x.f1 n n && (mfit x.f2 n n && (mfit x.f3 n n && (mfit x.f4 n n && (mfit x.f6 n (x.f6.f1.length : Int) && mfit x.f7 (x.f6.f1.length : Int) n))))))))) := by
    unfold spec_LayerOk.g
    refine bind_and _ _ _ _ (spec_width n) fun _ => bind_and _ _ _ _ (spec_width _) fun _ => bind_and _ _ _ _ (spec_gainB x.f0 n (by omega) k (by omega)) fun _ => bind_and _ _ _ _ (spec_gainB x.f5 n (by omega) k (by omega)) fun _ => bind_and _ _ _ _ (spec_mfit x.f1 n n (by omega) k hk) fun _ =>
      bind_and _ _ _ _ (spec_mfit x.f2 n n (by omega) k hk) fun _ => bind_and _ _ _ _ (spec_mfit x.f3 n n (by omega) k hk) fun _ => bind_and _ _ _ _ (spec_mfit x.f4 n n (by omega) k hk) fun _ => bind_and _ _ _ _ (spec_mfit x.f6 n _ (by omega) k hk) fun _ => ?_
    rw [spec_mfit x.f7 _ n (by omega) k hk, Option.bind_some]
  rw [g]
  unfold layerB
  congr 1
  cases h1 : mfit x.f1 n n with
  | false => simp
  | true => rw [mfit_width _ _ _ h1]; cases gainB x.f0 n <;> cases gainB x.f5 n <;> cases widthB (x.f6.f1.length : Int) <;> rfl
theorem impl_four (x : S86) (n : Int) (h : iLayer x ≤ 1048576) (rest : Option Bool) (c : Bool) (hr : rest = some c) (k : Nat) (hk : 2000 < k) :
    (impl_LayerOk.l0 x n k 0).bind (fun o => match o with | .inl r_ => some r_ | .inr _ => rest) = some (mfit x.f1 n n && (mfit x.f2 n n && (mfit x.f3 n n && (mfit x.f4 n n && c)))) := by
  have e : iLayer x = x.f0.length + (iMatrix x.f1 + (iMatrix x.f2 + (iMatrix x.f3 + (iMatrix x.f4 + (x.f5.length + (iMatrix x.f6 + iMatrix x.f7)))))) := rfl
  obtain ⟨k, rfl⟩ : ∃ m, k = m + 5 := ⟨k - 5, by omega⟩
  have step : ∀ (k i : Nat) (m : S44) (d : Bool), i < 4 → [x.f1, x.f2, x.f3, x.f4].getD i o44 = m → iMatrix m ≤ 1048576 → 1000 < k →
      (impl_LayerOk.l0 x n k ((i + 1 : Nat) : Int)).bind (fun o => match o with | .inl r_ => some r_ | .inr _ => rest) = some d → (impl_LayerOk.l0 x n (k + 1) (i : Int)).bind (fun o => match o with | .inl r_ => some r_ | .inr _ => rest) = some (mfit m n n && d) := by
    intro k i m d hi hm hM hk hd
    unfold impl_LayerOk.l0 impl_LayerOk.b0
    rw [if_pos (by omega), if_pos (by omega), Int.toNat_natCast, hm, impl_mfit m n n hM k hk, Option.bind_some, w64 (by omega) (by omega), show ((i : Int) + 1) = ((i + 1 : Nat) : Int) by omega]
    cases mfit m n n with
    | false => rfl
    | true => rw [if_pos rfl, hd]; rfl
  refine step (k + 4) 0 x.f1 _ (by omega) rfl (by omega) (by omega) ?_
  refine step (k + 3) 1 x.f2 _ (by omega) rfl (by omega) (by omega) ?_
  refine step (k + 2) 2 x.f3 _ (by omega) rfl (by omega) (by omega) ?_
  refine step (k + 1) 3 x.f4 _ (by omega) rfl (by omega) (by omega) ?_
  unfold impl_LayerOk.l0 impl_LayerOk.b0
  rw [if_neg (by omega), hr]; rfl
theorem impl_layer (x : S86) (n : Int) (h : iLayer x ≤ 1048576) (k : Nat) (hk : 2000 < k) : impl_LayerOk.g k x n = some (layerB x n) := by
  have e : iLayer x = x.f0.length + (iMatrix x.f1 + (iMatrix x.f2 + (iMatrix x.f3 + (iMatrix x.f4 + (x.f5.length + (iMatrix x.f6 + iMatrix x.f7)))))) := rfl
  unfold impl_LayerOk.g layerB
  refine bind_and _ _ _ _ (impl_gainB x.f0 n) fun _ => bind_and _ _ _ _ (impl_gainB x.f5 n) fun _ => bind_and _ _ _ _ (impl_width _) fun _ => ?_
  refine impl_four x n h _ _ (bind_and _ _ _ _ (impl_mfit x.f6 n _ (by omega) k (by omega)) fun _ => ?_) k hk
  rw [impl_mfit x.f7 _ n (by omega) k (by omega), Option.bind_some]

section
variable {α β : Type} (z : α) (zb : β) (l : List α) (L : Nat → Int → List β → Option (Int × List β)) (E : Nat → α → Option β) (g : α → β) (s : α → Nat)
theorem to_fromW (hL : ∀ k i xs, L (k + 1) i xs = if i < (l.length : Int) then (if 0 ≤ i ∧ i < (l.length : Int) then ((E k (l.getD i.toNat z)).bind fun t => (if 0 ≤ i ∧ i < ((xs.length : Nat) : Int) then (L k (wrap64 (i + 1)) (xs.set i.toNat t)) else none)) else none) else some (i, xs))
    (hE : ∀ k, ∀ x ∈ l, s x < k → E k x = some (g x)) (hl : l.length ≤ 9223372036854775807) (d : Nat) : ∀ (k i : Nat), i ≤ l.length → l.length - i = d → d + sumS s (l.drop i) < k →
    ∃ j, L k (i : Int) ((l.take i).map g ++ List.replicate (l.length - i) zb) = some (j, l.map g) := by
  induction d with
  | zero =>
    intro k i hi hd hk
    obtain ⟨k, rfl⟩ : ∃ m, k = m + 1 := ⟨k - 1, by omega⟩
    rw [hL, if_neg (by omega), List.take_of_length_le (by omega), hd]; simp
  | succ d ih =>
    intro k i hi hd hk
    obtain ⟨k, rfl⟩ : ∃ m, k = m + 1 := ⟨k - 1, by omega⟩
    have hlt : i < l.length := by omega
    rw [List.drop_eq_getElem_cons hlt, sumS_cons] at hk
    rw [hL, if_pos (by omega), if_pos (by omega), getD_int l _ i hlt, hE k l[i] (List.getElem_mem hlt) (by omega), Option.bind_some, if_pos (by simp; omega), w64 (by omega) (by omega), show ((i : Int) + 1) = ((i + 1 : Nat) : Int) by omega]
    have e : ((l.take i).map g ++ List.replicate (l.length - i) zb).set (i : Int).toNat (g l[i]) = (l.take (i + 1)).map g ++ List.replicate (l.length - (i + 1)) zb := by
      rw [Int.toNat_natCast, List.set_append_right _ _ (by simp; omega), show l.length - i = (l.length - (i + 1)) + 1 by omega, List.replicate_succ, List.length_map, List.length_take, Nat.min_eq_left (by omega), Nat.sub_self, List.set_cons_zero, List.take_succ_eq_append_getElem hlt, List.map_append, List.append_assoc]
      rfl
    rw [e]
    exact ih k (i + 1) (by omega) (by omega) (by omega)
theorem to_listW (hL : ∀ k i xs, L (k + 1) i xs = if i < (l.length : Int) then (if 0 ≤ i ∧ i < (l.length : Int) then ((E k (l.getD i.toNat z)).bind fun t => (if 0 ≤ i ∧ i < ((xs.length : Nat) : Int) then (L k (wrap64 (i + 1)) (xs.set i.toNat t)) else none)) else none) else some (i, xs))
    (hE : ∀ k, ∀ x ∈ l, s x < k → E k x = some (g x)) (hl : l.length < 4294967296) (k : Nat) (hk : szL s l < k) :
    (if 0 ≤ (l.length : Int) ∧ (l.length : Int) < 4294967296 then ((L k 0 (List.replicate (l.length : Int).toNat zb)).bind (fun o => (some o.2))) else none) = some (l.map g) := by
  unfold szL at hk
  obtain ⟨j, e⟩ := to_fromW z zb l L E g s hL hE (by omega) l.length k 0 (by omega) (by omega) (by rw [List.drop_zero]; omega)
  rw [if_pos ⟨by omega, by omega⟩, Int.toNat_natCast]
  simp only [List.take_zero, List.map_nil, List.nil_append, Nat.sub_zero] at e
  rw [show (0 : Int) = ((0 : Nat) : Int) from rfl, e]; rfl
end
section
variable {α : Type} (z : α) (l : List α) (L : Nat → Int → Option (Bool ⊕ Int)) (E : Nat → α → Option Bool) (s : α → Nat)
theorem eq_fromW (hL : ∀ k i, L (k + 1) i = if i < (l.length : Int) then (if 0 ≤ i ∧ i < (l.length : Int) then (if 0 ≤ i ∧ i < (l.length : Int) then ((E k (l.getD i.toNat z)).bind fun t => (if t = true then (L k (wrap64 (i + 1))) else (some (Sum.inl false)))) else none) else none) else some (Sum.inr i))
    (hE : ∀ k, ∀ x ∈ l, s x < k → E k x = some true) (hl : l.length ≤ 9223372036854775807) (d : Nat) : ∀ (k i : Nat), i ≤ l.length → l.length - i = d → d + sumS s (l.drop i) < k → ∃ j, L k (i : Int) = some (.inr j) := by
  induction d with
  | zero =>
    intro k i hi hd hk
    obtain ⟨k, rfl⟩ : ∃ m, k = m + 1 := ⟨k - 1, by omega⟩
    rw [hL, if_neg (by omega)]; exact ⟨_, rfl⟩
  | succ d ih =>
    intro k i hi hd hk
    obtain ⟨k, rfl⟩ : ∃ m, k = m + 1 := ⟨k - 1, by omega⟩
    have hlt : i < l.length := by omega
    rw [List.drop_eq_getElem_cons hlt, sumS_cons] at hk
    rw [hL, if_pos (by omega), if_pos (by omega), if_pos (by omega), getD_int l _ i hlt, hE k l[i] (List.getElem_mem hlt) (by omega), Option.bind_some, if_pos rfl, w64 (by omega) (by omega), show ((i : Int) + 1) = ((i + 1 : Nat) : Int) by omega]
    exact ih k (i + 1) (by omega) (by omega) (by omega)
theorem eq_listW (hL : ∀ k i, L (k + 1) i = if i < (l.length : Int) then (if 0 ≤ i ∧ i < (l.length : Int) then (if 0 ≤ i ∧ i < (l.length : Int) then ((E k (l.getD i.toNat z)).bind fun t => (if t = true then (L k (wrap64 (i + 1))) else (some (Sum.inl false)))) else none) else none) else some (Sum.inr i))
    (hE : ∀ k, ∀ x ∈ l, s x < k → E k x = some true) (hl : l.length ≤ 9223372036854775807) (k : Nat) (hk : szL s l < k) :
    (if (l.length : Int) = (l.length : Int) then ((L k 0).bind (fun o => match o with | .inl r_ => some r_ | .inr _ => (some true))) else (some false)) = some true := by
  unfold szL at hk
  obtain ⟨j, e⟩ := eq_fromW z l L E s hL hE hl l.length k 0 (by omega) (by omega) (by rw [List.drop_zero]; omega)
  rw [if_pos rfl, show (0 : Int) = ((0 : Nat) : Int) from rfl, e]; rfl
end
theorem szL_zero {α : Type} (l : List α) : szL (fun _ : α => 0) l = l.length := by
  have : ∀ l : List α, sumS (fun _ => 0) l = 0 := fun l => by induction l with | nil => rfl | cons a l ih => rw [sumS_cons, ih]
  unfold szL; rw [this]; rfl

def mMerges (x : List S96) : Nat := x.length
def mTurns (x : S32) : Nat := mIntss x.f0 + mIntss x.f1
def mLayers : List S78 → Nat := szL mLayer
def mModel (x : S34) : Nat := mMerges x.f3 + (mIntss x.f4 + (mLayers x.f5 + (x.f6.length + (mMatrix x.f7 + mTurns x.f8))))
def gMerge (x : S96) : S94 := ⟨x.f0, x.f1⟩
def gMerges : List S96 → List S94 := List.map gMerge
def gLayers : List S78 → List S86 := List.map gLayer
theorem szMerges_m (x : List S96) (n : Int) (hl : x.length ≤ 9223372036854775807) (h0 : 0 ≤ n) (h1 : n ≤ 1048576) : laws_szMergeS.f x n = lessS n (mMerges x) := by
  unfold laws_szMergeS.f lessS mMerges
  rw [w64 (i := n - (x.length : Int)) (by omega) (by omega)]
  by_cases c : n < (x.length : Int)
  · rw [if_pos c, if_pos (by omega)]
  · rw [if_neg c, if_neg (by omega)]
theorem szTurns_m (k : Nat) (x : S32) (n : Int) (ok : okT32 x) (hk : mTurns x < k) (h0 : 0 ≤ n) (h1 : n ≤ 1048576) : laws_szTurns.g k x n = lessS n (mTurns x) := by
  have h : mTurns x = mIntss x.f0 + mIntss x.f1 := rfl
  exact sz_then (szIntss_ok k x.f0 n ok.1 (by omega) h0 h1) h0 fun g => sz_end (szIntss_ok k x.f1 _ ok.2 (by omega) (by omega) (by omega)) (by omega)
theorem toMerges_m (k : Nat) (x : List S96) (h : mMerges x ≤ 1048576) (hk : mMerges x < k) : laws_toMergeS.g k x = some (gMerges x) := by
  unfold mMerges at h hk
  exact to_listW o96 o94 x (laws_toMergeS.l0 x) (fun k y => laws_toMerge.g k y) gMerge (fun _ => 0) (fun _ _ _ => rfl) (fun k y _ _ => rfl) (by omega) k (by rw [szL_zero]; exact hk)
theorem toTurns_m (k : Nat) (x : S32) (h : mTurns x ≤ 1048576) (hk : mTurns x < k) : laws_toTurns.g k x = some ⟨x.f0, x.f1⟩ := by
  have g : mTurns x = mIntss x.f0 + mIntss x.f1 := rfl
  unfold laws_toTurns.g
  rw [toIntSS_same k x.f0 (by omega) (by omega), Option.bind_some, toIntSS_same k x.f1 (by omega) (by omega), Option.bind_some]
def iLayers : List S86 → Nat := szL iLayer
theorem i_layers (x : List S78) : iLayers (gLayers x) = mLayers x := by unfold iLayers mLayers gLayers szL; rw [sumS_map' gLayer mLayer iLayer i_layer, List.length_map]
theorem eqTurns_i (k : Nat) (x : S45) (h : mIntss x.f0 + mIntss x.f1 ≤ 1048576) (hk : mIntss x.f0 + mIntss x.f1 < k) : laws_eqTurns.g k x x = some true := by
  unfold laws_eqTurns.g
  rw [eqIntSS_same k x.f0 (by omega) (by omega), Option.bind_some, if_pos rfl, eqIntSS_same k x.f1 (by omega) (by omega), Option.bind_some, if_pos rfl]
theorem eqMerges_i (k : Nat) (x : List S94) (h : x.length ≤ 1048576) (hk : x.length < k) : laws_eqMergeS.g k x x = some true :=
  eq_listW o94 x (laws_eqMergeS.l0 x x) (fun k y => laws_eqMerge.g k y y) (fun _ => 0) (fun _ _ => rfl) (fun k y _ _ => by unfold laws_eqMerge.g; rw [if_pos rfl, if_pos rfl]) (by omega) k (by rw [szL_zero]; exact hk)

theorem szLayers_from (l : List S78) (hl : l.length ≤ 9223372036854775807) (hok : ∀ x ∈ l, okT78 x) (d : Nat) : ∀ (k i : Nat) (n : Int), i ≤ l.length → l.length - i = d → d + sumS mLayer (l.drop i) < k → 0 ≤ n → n ≤ 1048576 →
    (laws_szLayerS.l0 l k n (i : Int)).bind (fun o => match o with | .inl r_ => some r_ | .inr ⟨a, _⟩ => some a) = lessS n (sumS mLayer (l.drop i)) := by
  induction d with
  | zero =>
    intro k i n hi hd hk h0 h1
    obtain ⟨k, rfl⟩ : ∃ m, k = m + 1 := ⟨k - 1, by omega⟩
    rw [List.drop_of_length_le (by omega)]
    unfold laws_szLayerS.l0 laws_szLayerS.b0
    rw [if_neg (by omega)]
    show some n = some (if n < 0 then -1 else n - 0)
    rw [if_neg (by omega)]; simp
  | succ d ih =>
    intro k i n hi hd hk h0 h1
    obtain ⟨k, rfl⟩ : ∃ m, k = m + 1 := ⟨k - 1, by omega⟩
    have hlt : i < l.length := by omega
    rw [List.drop_eq_getElem_cons hlt, sumS_cons] at hk ⊢
    unfold laws_szLayerS.l0 laws_szLayerS.b0
    rw [if_pos (by omega), if_pos (by omega), getD_int l _ i hlt, szLayer_g k l[i] n (hok _ (List.getElem_mem hlt)) (by omega) h0 h1]
    unfold lessS
    rw [Option.bind_some]
    by_cases c : n < (mLayer l[i] : Int)
    · rw [if_pos c, if_pos (by omega), if_pos (by omega)]; rfl
    · rw [if_neg c, if_neg (by omega), w64 (by omega) (by omega), show ((i : Int) + 1) = ((i + 1 : Nat) : Int) by omega, ih k (i + 1) _ (by omega) (by omega) (by omega) (by omega) (by omega)]
      unfold lessS
      by_cases e : n - (mLayer l[i] : Int) < (sumS mLayer (l.drop (i + 1)) : Int)
      · rw [if_pos e, if_pos (by omega)]
      · rw [if_neg e, if_neg (by omega)]; congr 1; omega
theorem szLayers_g (k : Nat) (l : List S78) (n : Int) (ok : okT27 l) (hk : mLayers l < k) (h0 : 0 ≤ n) (h1 : n ≤ 1048576) : laws_szLayerS.g k l n = lessS n (mLayers l) := by
  have hl := ok.1
  unfold mLayers szL at hk ⊢
  unfold laws_szLayerS.g
  rw [w64 (i := n - (l.length : Int)) (by omega) (by omega)]
  by_cases c : n - (l.length : Int) < 0
  · rw [if_pos c]; unfold lessS; rw [if_pos (by omega)]
  · rw [if_neg c]
    have := szLayers_from l hl ok.2 l.length k 0 (n - l.length) (by omega) (by omega) (by rw [List.drop_zero]; omega) (by omega) (by omega)
    rw [List.drop_zero] at this
    rw [show (0 : Int) = ((0 : Nat) : Int) from rfl]
    refine this.trans ?_
    unfold lessS
    by_cases e : n - (l.length : Int) < (sumS mLayer l : Int)
    · rw [if_pos e, if_pos (by omega)]
    · rw [if_neg e, if_neg (by omega)]; congr 1; omega
theorem szModel_g (k : Nat) (x : S34) (n : Int) (ok : okT34 x) (hk : mModel x < k) (h0 : 0 ≤ n) (h1 : n ≤ 1048576) : laws_szModel.g k x n = lessS n (mModel x) := by
  have h : mModel x = mMerges x.f3 + (mIntss x.f4 + (mLayers x.f5 + (x.f6.length + (mMatrix x.f7 + mTurns x.f8)))) := rfl
  obtain ⟨o0, o1, o2, o3, o4, o5, o6, o7, o8⟩ := ok
  unfold laws_szModel.g
  rw [h]
  exact sz_then (szMerges_m x.f3 n o3.1 h0 h1) h0 fun g0 => sz_then (szIntss_ok k x.f4 _ o4 (by omega) (by omega) (by omega)) (by omega) fun g1 => sz_then (szLayers_g k x.f5 _ o5 (by omega) (by omega) (by omega)) (by omega) fun g2 =>
    sz_then (szInts_tells x.f6 o6.1 _ (by omega) (by omega)) (by omega) fun g3 => sz_then (szMatrix_m k x.f7 _ o7 (by omega) (by omega) (by omega)) (by omega) fun g4 => sz_end (szTurns_m k x.f8 _ o8 (by omega) (by omega) (by omega)) (by omega)
theorem toLayers_from (l : List S78) (hl : l.length ≤ 9223372036854775807) (hs : ∀ x ∈ l, mLayer x ≤ 1048576) (d : Nat) : ∀ (k i : Nat), i ≤ l.length → l.length - i = d → d + sumS mLayer (l.drop i) < k →
    ∃ j, laws_toLayerS.l0 l k (i : Int) ((l.take i).map gLayer ++ List.replicate (l.length - i) o86) = some (j, l.map gLayer) := by
  induction d with
  | zero =>
    intro k i hi hd hk
    obtain ⟨k, rfl⟩ : ∃ m, k = m + 1 := ⟨k - 1, by omega⟩
    unfold laws_toLayerS.l0 laws_toLayerS.b0
    rw [if_neg (by omega), List.take_of_length_le (by omega), hd]; simp
  | succ d ih =>
    intro k i hi hd hk
    obtain ⟨k, rfl⟩ : ∃ m, k = m + 1 := ⟨k - 1, by omega⟩
    have hlt : i < l.length := by omega
    rw [List.drop_eq_getElem_cons hlt, sumS_cons] at hk
    unfold laws_toLayerS.l0 laws_toLayerS.b0
    rw [if_pos (by omega), if_pos (by omega), getD_int l _ i hlt, toLayer_g k l[i] (hs _ (List.getElem_mem hlt)) (by omega), Option.bind_some, if_pos (by simp; omega), w64 (by omega) (by omega), show ((i : Int) + 1) = ((i + 1 : Nat) : Int) by omega]
    have e : ((l.take i).map gLayer ++ List.replicate (l.length - i) o86).set (i : Int).toNat (gLayer l[i]) = (l.take (i + 1)).map gLayer ++ List.replicate (l.length - (i + 1)) o86 := by
      rw [Int.toNat_natCast, List.set_append_right _ _ (by simp; omega), show l.length - i = (l.length - (i + 1)) + 1 by omega, List.replicate_succ, List.length_map, List.length_take, Nat.min_eq_left (by omega), Nat.sub_self, List.set_cons_zero, List.take_succ_eq_append_getElem hlt, List.map_append, List.append_assoc]
      rfl
    rw [e]
    exact ih k (i + 1) (by omega) (by omega) (by omega)
theorem toLayers_g (k : Nat) (l : List S78) (h : mLayers l ≤ 1048576) (hk : mLayers l < k) : laws_toLayerS.g k l = some (gLayers l) := by
  unfold mLayers szL at h hk
  obtain ⟨j, e⟩ := toLayers_from l (by omega) (fun x hx => by have := sumS_le mLayer l x hx; omega) l.length k 0 (by omega) (by omega) (by rw [List.drop_zero]; omega)
  unfold laws_toLayerS.g
  rw [if_pos ⟨by omega, by omega⟩, Int.toNat_natCast]
  simp only [List.take_zero, List.map_nil, List.nil_append, Nat.sub_zero] at e
  rw [show (0 : Int) = ((0 : Nat) : Int) from rfl, e]; rfl
def gModel (x : S34) : S47 := ⟨x.f0, x.f1, x.f2, gMerges x.f3, x.f4, gLayers x.f5, x.f6, gMatrix x.f7, ⟨x.f8.f0, x.f8.f1⟩⟩
theorem toModel_g (k : Nat) (x : S34) (h : mModel x ≤ 1048576) (hk : mModel x < k) : laws_toModel.g k x = some (gModel x) := by
  have g : mModel x = mMerges x.f3 + (mIntss x.f4 + (mLayers x.f5 + (x.f6.length + (mMatrix x.f7 + mTurns x.f8)))) := rfl
  unfold laws_toModel.g
  rw [toMerges_m k x.f3 (by omega) (by omega), Option.bind_some, toIntSS_same k x.f4 (by omega) (by omega), Option.bind_some, toLayers_g k x.f5 (by omega) (by omega), Option.bind_some, to_tells x.f6 (by omega) k (by omega), Option.bind_some,
    toMatrix_m k x.f7 (by omega) (by omega), Option.bind_some, toTurns_m k x.f8 (by omega) (by omega), Option.bind_some]
  rfl
theorem eqLayers_from (l : List S86) (hl : l.length ≤ 9223372036854775807) (hs : ∀ x ∈ l, iLayer x ≤ 1048576) (d : Nat) : ∀ (k i : Nat), i ≤ l.length → l.length - i = d → d + sumS iLayer (l.drop i) < k →
    ∃ j, laws_eqLayerS.l0 l l k (i : Int) = some (.inr j) := by
  induction d with
  | zero =>
    intro k i hi hd hk
    obtain ⟨k, rfl⟩ : ∃ m, k = m + 1 := ⟨k - 1, by omega⟩
    unfold laws_eqLayerS.l0 laws_eqLayerS.b0
    rw [if_neg (by omega)]; exact ⟨_, rfl⟩
  | succ d ih =>
    intro k i hi hd hk
    obtain ⟨k, rfl⟩ : ∃ m, k = m + 1 := ⟨k - 1, by omega⟩
    have hlt : i < l.length := by omega
    rw [List.drop_eq_getElem_cons hlt, sumS_cons] at hk
    unfold laws_eqLayerS.l0 laws_eqLayerS.b0
    rw [if_pos (by omega), if_pos (by omega), if_pos (by omega), getD_int l _ i hlt, eqLayer_g k l[i] (hs _ (List.getElem_mem hlt)) (by omega), Option.bind_some, if_pos rfl, w64 (by omega) (by omega), show ((i : Int) + 1) = ((i + 1 : Nat) : Int) by omega]
    exact ih k (i + 1) (by omega) (by omega) (by omega)
theorem eqLayers_g (k : Nat) (l : List S86) (h : iLayers l ≤ 1048576) (hk : iLayers l < k) : laws_eqLayerS.g k l l = some true := by
  unfold iLayers szL at h hk
  obtain ⟨j, e⟩ := eqLayers_from l (by omega) (fun x hx => by have := sumS_le iLayer l x hx; omega) l.length k 0 (by omega) (by omega) (by rw [List.drop_zero]; omega)
  unfold laws_eqLayerS.g
  rw [if_pos rfl, show (0 : Int) = ((0 : Nat) : Int) from rfl, e]; rfl
def iModel (x : S47) : Nat := x.f3.length + (mIntss x.f4 + (iLayers x.f5 + (x.f6.length + (iMatrix x.f7 + (mIntss x.f8.f0 + mIntss x.f8.f1)))))
theorem i_model (x : S34) : iModel (gModel x) = mModel x := by
  show (x.f3.map gMerge).length + (mIntss x.f4 + (iLayers (gLayers x.f5) + (x.f6.length + (mMatrix x.f7 + mTurns x.f8)))) = _
  rw [i_layers, List.length_map]; rfl
theorem eqModel_g (k : Nat) (x : S47) (h : iModel x ≤ 1048576) (hk : iModel x < k) : laws_eqModel.g k x x = some true := by
  unfold iModel at h hk
  unfold laws_eqModel.g
  rw [if_pos rfl, if_pos rfl, if_pos rfl, eqMerges_i k x.f3 (by omega) (by omega), Option.bind_some, if_pos rfl, eqIntSS_same k x.f4 (by omega) (by omega), Option.bind_some, if_pos rfl, eqLayers_g k x.f5 (by omega) (by omega), Option.bind_some, if_pos rfl,
    eqInts_i k x.f6 (by omega) (by omega), Option.bind_some, if_pos rfl, eqMatrix_i k x.f7 (by omega) (by omega), Option.bind_some, if_pos rfl, eqTurns_i k x.f8 (by omega) (by omega), Option.bind_some, if_pos rfl]


theorem all_range {α : Type} (P : α → Bool) (z : α) (R : List α) : R.all P = (List.range R.length).all fun p => P (R.getD p z) := by
  rw [Bool.eq_iff_iff, List.all_eq_true, List.all_eq_true]
  constructor
  · intro h p hp
    have := List.mem_range.1 hp
    rw [List.getD_eq_getElem?_getD, List.getElem?_eq_getElem this]; exact h _ (List.getElem_mem _)
  · intro h x hx
    obtain ⟨p, hp, rfl⟩ := List.mem_iff_getElem.1 hx
    have := h p (List.mem_range.2 hp)
    rwa [List.getD_eq_getElem?_getD, List.getElem?_eq_getElem hp] at this
theorem all_drop (P : Nat → Bool) (n i : Nat) (h : i < n) : ((List.range n).drop i).all P = (P i && ((List.range n).drop (i + 1)).all P) := by
  rw [List.drop_eq_getElem_cons (by simpa using h), List.all_cons, List.getElem_range]
theorem all_both (P Q : Nat → Bool) (l : List Nat) : (l.all fun i => P i && Q i) = (l.all P && l.all Q) := by
  rw [Bool.eq_iff_iff, Bool.and_eq_true, List.all_eq_true, List.all_eq_true, List.all_eq_true]
  constructor
  · intro h; exact ⟨fun x hx => (Bool.and_eq_true_iff.1 (h x hx)).1, fun x hx => (Bool.and_eq_true_iff.1 (h x hx)).2⟩
  · intro h x hx; rw [h.1 x hx, h.2 x hx]; rfl
def rowT (n : Int) (l : List Int) : Bool := decide ((l.length : Int) = n) && l.all fun x => decide (-128 ≤ x) && decide (x ≤ 128)
def turnsB (R S : List (List Int)) (a n : Int) : Bool := (decide (4 ≤ a) && decide (a ≤ 24)) && ((decide (1 ≤ n) && decide (n ≤ 4)) && ((decide ((R.length : Int) = a) && R.all (rowT n)) && (decide ((S.length : Int) = a) && S.all (rowT n))))
theorem impl_turns (R S : List (List Int)) (a n : Int) : impl_TurnsOk.f R S a n = some (turnsB R S a n) := by
  unfold impl_TurnsOk.f impl_in.f turnsB
  by_cases h1 : 4 ≤ a
  · rw [if_pos h1, Option.bind_some, decide_eq_true h1]
    by_cases h2 : a ≤ 24
    · rw [decide_eq_true h2, if_pos rfl]
      by_cases h3 : 1 ≤ n
      · rw [if_pos h3, Option.bind_some, decide_eq_true h3]
        by_cases h4 : n ≤ 4
        · rw [decide_eq_true h4, if_pos rfl]
          have e : ∀ T : List (List Int), impl_turnLists.f T a n = some (decide ((T.length : Int) = a) && T.all (rowT n)) := fun T => rfl
          rw [e R, e S, Option.bind_some]
          cases decide ((R.length : Int) = a) && R.all (rowT n) with
          | false => rfl
          | true => rw [if_pos rfl, Option.bind_some]; rfl
        · rw [decide_eq_false h4, if_neg (by simp)]; rfl
      · rw [if_neg h3, Option.bind_some, if_neg (by simp), decide_eq_false h3]; rfl
    · rw [decide_eq_false h2, if_neg (by simp)]; rfl
  · rw [if_neg h1, Option.bind_some, if_neg (by simp), decide_eq_false h1]; rfl
theorem spec_turns_from (R S : List (List Int)) (a : Nat) (n : Int) (hR : R.length = a) (hS : S.length = a) (ha : a ≤ 24) (hn : 1 ≤ n ∧ n ≤ 4) (d : Nat) : ∀ (k i : Nat), i + d = a → d + 10 < k →
    spec_TurnsOk.l0 k (a : Int) n (i : Int) R S = some (((List.range a).drop i).all fun p => rowT n (R.getD p []) && rowT n (S.getD p [])) := by
  induction d with
  | zero =>
    intro k i hi hk
    obtain ⟨k, rfl⟩ : ∃ m, k = m + 1 := ⟨k - 1, by omega⟩
    rw [spec_TurnsOk.l0, if_neg (by omega), List.drop_of_length_le (by simp; omega)]; rfl
  | succ d ih =>
    intro k i hi hk
    obtain ⟨k, rfl⟩ : ∃ m, k = m + 1 := ⟨k - 1, by omega⟩
    have e : ∀ T : List (List Int), rd_L1 T (i : Int) = T.getD i [] := fun T => by show T.getD (i : Int).toNat [] = _; rw [Int.toNat_natCast]
    rw [spec_TurnsOk.l0, if_pos (by omega), if_pos (by omega), if_pos (by omega), all_drop _ _ i (by omega), e R, e S]
    unfold rowT
    by_cases h1 : ((R.getD i []).length : Int) = n
    · rw [if_pos h1, if_pos (by omega), decide_eq_true h1, Bool.true_and]
      by_cases h2 : ((S.getD i []).length : Int) = n
      · rw [if_pos h2, decide_eq_true h2, Bool.true_and, all_tells _ _ _ (by omega) k (by omega), all_tells _ _ _ (by omega) k (by omega), Option.bind_some]
        cases (R.getD i []).all fun x => decide (-128 ≤ x) && decide (x ≤ 128) with
        | false => rfl
        | true =>
          rw [if_pos rfl, Option.bind_some]
          cases (S.getD i []).all fun x => decide (-128 ≤ x) && decide (x ≤ 128) with
          | false => rfl
          | true => rw [if_pos rfl, w64 (by omega) (by omega), show ((i : Int) + 1) = ((i + 1 : Nat) : Int) by omega, ih k (i + 1) (by omega) (by omega)]; rfl
      · rw [if_neg h2, decide_eq_false h2]; simp
    · rw [if_neg h1, decide_eq_false h1]; rfl
theorem spec_turns (R S : List (List Int)) (a n : Int) (k : Nat) (hk : 100 < k) : spec_TurnsOk.f k R S a n = some (turnsB R S a n) := by
  obtain ⟨k, rfl⟩ : ∃ m, k = m + 1 := ⟨k - 1, by omega⟩
  unfold spec_TurnsOk.f spec_l01In.f turnsB
  by_cases h1 : 4 ≤ a
  · rw [if_pos h1, Option.bind_some, decide_eq_true h1]
    by_cases h2 : a ≤ 24
    · rw [decide_eq_true h2, if_pos rfl]
      by_cases h3 : 1 ≤ n
      · rw [if_pos h3, Option.bind_some, decide_eq_true h3]
        by_cases h4 : n ≤ 4
        · rw [decide_eq_true h4, if_pos rfl]
          by_cases h5 : (R.length : Int) = a
          · rw [if_pos h5, decide_eq_true h5, spec_TurnsOk.j0]
            by_cases h6 : (S.length : Int) = a
            · rw [if_neg (by simp [h6]), decide_eq_true h6]
              have g := spec_turns_from R S R.length n rfl (by omega) (by omega) ⟨h3, h4⟩ R.length k 0 (by omega) (by omega)
              rw [← h5]
              refine g.trans ?_
              have hl : S.length = R.length := by omega
              rw [List.drop_zero, all_both, all_range (rowT n) [] R, all_range (rowT n) [] S, hl]
              simp
            · rw [if_pos (by simp [h6]), decide_eq_false h6]; simp
          · rw [if_neg h5, decide_eq_false h5, spec_TurnsOk.j0, if_pos rfl]; simp
        · rw [decide_eq_false h4, if_neg (by simp), spec_TurnsOk.j0, if_pos rfl]; simp
      · rw [if_neg h3, Option.bind_some, if_neg (by simp), decide_eq_false h3, spec_TurnsOk.j0, if_pos rfl]; simp
    · rw [decide_eq_false h2, if_neg (by simp), spec_TurnsOk.j0, if_pos rfl]; simp
  · rw [if_neg h1, Option.bind_some, if_neg (by simp), decide_eq_false h1, spec_TurnsOk.j0, if_pos rfl]; simp

def atM (l : List S94) (i : Nat) : S94 := l.getD i z94
def sameM (a b : S94) : Bool := a.f0 == b.f0 && a.f1 == b.f1
def sz1 (s : List Int) (x : Int) : Int := if x < 256 then 1 else rd s (x - 256)
def szs (l : List S94) : Nat → List Int
  | 0 => []
  | i + 1 => szs l i ++ [sz1 (szs l i) (atM l i).f0 + sz1 (szs l i) (atM l i).f1]
def szN (l : List S94) (i : Nat) : Int := sz1 (szs l i) (atM l i).f0 + sz1 (szs l i) (atM l i).f1
def tokB (i : Nat) (x : Int) : Bool := decide (0 ≤ x) && decide (x ≤ 255 + (i : Int))
def toksB (l : List S94) (i : Nat) : Bool := tokB i (atM l i).f0 && tokB i (atM l i).f1
def freshB (l : List S94) (i : Nat) : Bool := (List.range i).all fun j => !sameM (atM l j) (atM l i)
def sizB (l : List S94) (i : Nat) : Bool := toksB l i && decide (szN l i ≤ 64)
theorem szs_len (l : List S94) : ∀ i, (szs l i).length = i
  | 0 => rfl
  | i + 1 => by rw [szs, List.length_append, szs_len l i]; rfl
def lowS (s : List Int) : Prop := ∀ z ∈ s, 0 ≤ z ∧ z ≤ 64
theorem sz1_bd (s : List Int) (x : Int) (i : Nat) (hs : lowS s) (hl : s.length = i) (h : tokB i x = true) : 0 ≤ sz1 s x ∧ sz1 s x ≤ 64 ∧ (¬ x < 256 → 0 ≤ x - 256 ∧ x - 256 < (s.length : Int)) ∧ 0 ≤ x ∧ x ≤ 255 + (i : Int) := by
  unfold tokB at h
  simp only [Bool.and_eq_true, decide_eq_true_eq] at h
  unfold sz1
  by_cases c : x < 256
  · rw [if_pos c]; exact ⟨by omega, by omega, fun h => (h c).elim, h.1, h.2⟩
  · rw [if_neg c]
    have g : rd s (x - 256) ∈ s := by
      have := rd_mem s (x - 256).toNat (by omega)
      rwa [show (((x - 256).toNat : Nat) : Int) = x - 256 by omega] at this
    have := hs _ g
    exact ⟨this.1, this.2, fun _ => ⟨by omega, by omega⟩, h.1, h.2⟩
theorem low_snoc (s : List Int) (x : Int) (h : lowS s) (h0 : 0 ≤ x) (h1 : x ≤ 64) : lowS (s ++ [x]) := fun z hz => by
  rcases List.mem_append.1 hz with g | g
  · exact h z g
  · rw [List.mem_singleton.1 g]; exact ⟨h0, h1⟩
theorem atM_rd (l : List S94) (i : Nat) : rd_T94 l (i : Int) = atM l i := by show l.getD (i : Int).toNat _ = _; rw [Int.toNat_natCast]; rfl
theorem spec_in (x lo hi : Int) : spec_l01In.f x lo hi = some (decide (lo ≤ x) && decide (x ≤ hi)) := by
  unfold spec_l01In.f
  by_cases c : x ≥ lo
  · rw [if_pos c, decide_eq_true (show lo ≤ x from c)]; rfl
  · rw [if_neg c, decide_eq_false (show ¬ lo ≤ x from c)]; rfl
theorem impl_inB (x lo hi : Int) : impl_in.f x lo hi = some (decide (lo ≤ x) && decide (x ≤ hi)) := by
  unfold impl_in.f
  by_cases c : x ≥ lo
  · rw [if_pos c, decide_eq_true (show lo ≤ x from c)]; rfl
  · rw [if_neg c, decide_eq_false (show ¬ lo ≤ x from c)]; rfl
theorem spec_fresh (l : List S94) (s : List Int) (i : Nat) (x : Int) (hi : i < l.length) (hl : l.length ≤ 16) (hs : s.length ≤ 16) (d : Nat) : ∀ (k j : Nat), j + d = i → d < k →
    spec_MergesOk.l2 k l s (i : Int) x (j : Int) = if (((List.range i).drop j).all fun j => !sameM (atM l j) (atM l i)) = true then (if x > 64 then some false else spec_MergesOk.l0 (k - d - 1) l (s ++ [x]) ((i + 1 : Nat) : Int)) else some false := by
  induction d with
  | zero =>
    intro k j hj hk
    obtain ⟨k, rfl⟩ : ∃ m, k = m + 1 := ⟨k - 1, by omega⟩
    rw [spec_MergesOk.l2, if_neg (by omega), List.drop_of_length_le (by simp; omega)]
    by_cases c : x > 64
    · rw [if_pos c, if_pos c]; simp
    · rw [if_neg c, if_neg c, if_pos (by omega), w64 (by omega) (by omega), show ((i : Int) + 1) = ((i + 1 : Nat) : Int) by omega]; simp
  | succ d ih =>
    intro k j hj hk
    obtain ⟨k, rfl⟩ : ∃ m, k = m + 1 := ⟨k - 1, by omega⟩
    rw [spec_MergesOk.l2, if_pos (by omega), if_pos (by omega), if_pos (by omega), if_pos (by omega), if_pos (by omega), all_drop _ _ j (by omega), atM_rd, atM_rd]
    by_cases c : sameM (atM l j) (atM l i) = true
    · rw [if_pos (show ((atM l j).f0 == (atM l i).f0 && (atM l j).f1 == (atM l i).f1) = true from c), c]; rfl
    · rw [if_neg (show ¬ ((atM l j).f0 == (atM l i).f0 && (atM l j).f1 == (atM l i).f1) = true from c), Bool.eq_false_iff.mpr c, Bool.not_false, Bool.true_and, w64 (by omega) (by omega), show ((j : Int) + 1) = ((j + 1 : Nat) : Int) by omega, ih k (j + 1) (by omega) (by omega), show k + 1 - (d + 1) - 1 = k - d - 1 by omega]
theorem spec_two (l : List S94) (i : Nat) (hi : i < l.length) (hl : l.length ≤ 16) (hs : lowS (szs l i)) (ht : toksB l i = true) (k : Nat) : spec_MergesOk.l1 (k + 3) l (szs l i) (i : Int) 0 0 = spec_MergesOk.l2 k l (szs l i) (i : Int) (szN l i) 0 := by
  unfold toksB at ht
  rw [Bool.and_eq_true] at ht
  have hsl := szs_len l i
  have w1 : wrap64 (0 + 1) = 1 := w64 (by omega) (by omega)
  have w2 : wrap64 (1 + 1) = 2 := w64 (by omega) (by omega)
  obtain ⟨a0, a1, a2, a3, a4⟩ := sz1_bd (szs l i) _ i hs hsl ht.1
  obtain ⟨b0, b1, b2, b3, b4⟩ := sz1_bd (szs l i) _ i hs hsl ht.2
  have e1 : spec_MergesOk.l1 (k + 3) l (szs l i) (i : Int) 0 0 = spec_MergesOk.l1 (k + 2) l (szs l i) (i : Int) (sz1 (szs l i) (atM l i).f0) 1 := by
    rw [spec_MergesOk.l1, if_pos (by omega), if_pos (by omega), if_pos (by omega), if_neg (by omega), atM_rd]
    unfold sz1 at a0 a1 ⊢
    by_cases c : (atM l i).f0 < 256
    · rw [if_pos c, if_pos c, w1]
    · rw [if_neg c] at a0 a1
      have := a2 c
      rw [if_neg c, if_neg c, w64 (i := (atM l i).f0 - 256) (by omega) (by omega), if_pos (by omega), if_pos (by omega), w64 (i := 0 + rd (szs l i) ((atM l i).f0 - 256)) (by omega) (by omega), Int.zero_add, w1]
  have e2 : spec_MergesOk.l1 (k + 2) l (szs l i) (i : Int) (sz1 (szs l i) (atM l i).f0) 1 = spec_MergesOk.l1 (k + 1) l (szs l i) (i : Int) (szN l i) 2 := by
    rw [spec_MergesOk.l1, if_pos (by omega), if_pos (by omega), if_pos (by omega), if_pos rfl, atM_rd]
    unfold szN
    generalize sz1 (szs l i) (atM l i).f0 = q at a0 a1 ⊢
    unfold sz1 at b0 b1 ⊢
    by_cases c : (atM l i).f1 < 256
    · rw [if_pos c, if_pos c, w64 (i := q + 1) (by omega) (by omega), w2]
    · rw [if_neg c] at b0 b1
      have := b2 c
      rw [if_neg c, if_neg c, w64 (i := (atM l i).f1 - 256) (by omega) (by omega), if_pos (by omega), if_pos (by omega), w64 (i := q + rd (szs l i) ((atM l i).f1 - 256)) (by omega) (by omega), w2]
  rw [e1, e2, spec_MergesOk.l1, if_neg (by omega)]
theorem szN_bd (l : List S94) (i : Nat) (hs : lowS (szs l i)) (ht : toksB l i = true) : 0 ≤ szN l i ∧ szN l i ≤ 128 := by
  unfold toksB at ht
  rw [Bool.and_eq_true] at ht
  obtain ⟨a0, a1, _⟩ := sz1_bd (szs l i) _ i hs (szs_len l i) ht.1
  obtain ⟨b0, b1, _⟩ := sz1_bd (szs l i) _ i hs (szs_len l i) ht.2
  unfold szN; omega
theorem spec_merges_from (l : List S94) (hl : l.length ≤ 16) (d : Nat) : ∀ (k i : Nat), i + d = l.length → lowS (szs l i) → 60 * d + 60 < k →
    spec_MergesOk.l0 k l (szs l i) (i : Int) = some (((List.range l.length).drop i).all fun i => freshB l i && sizB l i) := by
  induction d with
  | zero =>
    intro k i hi hs hk
    obtain ⟨k, rfl⟩ : ∃ m, k = m + 1 := ⟨k - 1, by omega⟩
    rw [spec_MergesOk.l0, if_neg (by omega), List.drop_of_length_le (by simp; omega)]; rfl
  | succ d ih =>
    intro k i hi hs hk
    obtain ⟨k, rfl⟩ : ∃ m, k = m + 10 := ⟨k - 10, by omega⟩
    rw [spec_MergesOk.l0, if_pos (by omega), if_pos (by omega), spec_in, spec_in, all_drop _ _ i (by omega), atM_rd, Option.bind_some, w64 (by omega) (by omega)]
    unfold sizB toksB
    show (if tokB i (atM l i).f0 = true then _ else _) = _
    cases h1 : tokB i (atM l i).f0 with
    | false => rw [if_neg (by simp), spec_MergesOk.j1, if_pos rfl]; simp
    | true =>
      rw [if_pos rfl, Option.bind_some]
      show spec_MergesOk.j1 (k + 9) l (szs l i) (i : Int) (!tokB i (atM l i).f1) = _
      cases h2 : tokB i (atM l i).f1 with
      | false => rw [spec_MergesOk.j1, if_pos (show (!false) = true from rfl)]; simp
      | true =>
        have ht : toksB l i = true := by unfold toksB; rw [h1, h2]; rfl
        have hb := szN_bd l i hs ht
        rw [spec_MergesOk.j1, if_neg (by simp), show k + 8 = (k + 5) + 3 by omega, spec_two l i (by omega) hl hs ht (k + 5)]
        have := spec_fresh l (szs l i) i (szN l i) (by omega) hl (by rw [szs_len]; omega) i (k + 5) 0 (by omega) (by omega)
        rw [show ((0 : Nat) : Int) = 0 from rfl, List.drop_zero] at this
        rw [this]
        unfold freshB
        cases (List.range i).all fun j => !sameM (atM l j) (atM l i) with
        | false => rfl
        | true =>
          rw [if_pos rfl]
          by_cases c : szN l i > 64
          · rw [if_pos c, decide_eq_false (by omega)]; rfl
          · rw [if_neg c, decide_eq_true (by omega)]
            have e := ih (k + 5 - i - 1) (i + 1) (by omega) (low_snoc _ _ hs hb.1 (Int.not_lt.mp c)) (by omega)
            rw [show szs l (i + 1) = szs l i ++ [szN l i] from rfl] at e
            rw [e]; rfl
def mergesB (l : List S94) : Bool := decide (l.length ≤ 16) && ((List.range l.length).all fun i => freshB l i && sizB l i)
theorem spec_merges (l : List S94) (k : Nat) (hk : 2000 < k) : spec_MergesOk.f k l = some (mergesB l) := by
  unfold spec_MergesOk.f mergesB
  by_cases c : (l.length : Int) > 16
  · rw [if_pos c, decide_eq_false (by omega)]; rfl
  · rw [if_neg c, decide_eq_true (by omega)]
    have := spec_merges_from l (by omega) l.length k 0 (by omega) (fun z hz => by cases hz) (by omega)
    rw [List.drop_zero] at this
    exact this
theorem impl_index_from (l : List S94) (m : S94) (hl : l.length ≤ 16) (d : Nat) : ∀ (k j : Nat), j + d = l.length → d < k →
    ∃ r : Int, impl_Merge_90.l0 k l (l.length : Int) (j : Int) m.f0 m.f1 = some r ∧ decide (r ≥ 0) = !(((List.range l.length).drop j).all fun j => !sameM (atM l j) m) := by
  induction d with
  | zero =>
    intro k j hj hk
    obtain ⟨k, rfl⟩ : ∃ m, k = m + 1 := ⟨k - 1, by omega⟩
    rw [impl_Merge_90.l0, if_neg (by omega), List.drop_of_length_le (by simp; omega)]
    exact ⟨_, rfl, rfl⟩
  | succ d ih =>
    intro k j hj hk
    obtain ⟨k, rfl⟩ : ∃ m, k = m + 1 := ⟨k - 1, by omega⟩
    rw [impl_Merge_90.l0, if_pos (by omega), if_pos (by omega), if_pos (by omega), all_drop _ _ j (by omega), atM_rd]
    have e : (m.f0 == (atM l j).f0 && m.f1 == (atM l j).f1) = sameM (atM l j) m := by unfold sameM; rw [show (m.f0 == (atM l j).f0) = ((atM l j).f0 == m.f0) from BEq.comm, show (m.f1 == (atM l j).f1) = ((atM l j).f1 == m.f1) from BEq.comm]
    rw [e]
    cases sameM (atM l j) m with
    | true => rw [if_pos rfl]; exact ⟨_, rfl, by rw [decide_eq_true (by omega)]; rfl⟩
    | false =>
      rw [if_neg (by simp), w64 (by omega) (by omega), show ((j : Int) + 1) = ((j + 1 : Nat) : Int) by omega]
      exact ih k (j + 1) (by omega) (by omega)
theorem impl_contains (l : List S94) (i : Nat) (hi : i < l.length) (hl : l.length ≤ 16) (k : Nat) (hk : 20 < k) : impl_Merge_74.f k (l.take i) (atM l i).f0 (atM l i).f1 = some (!freshB l i) := by
  have e : (l.take i).length = i := by rw [List.length_take]; omega
  obtain ⟨r, h1, h2⟩ := impl_index_from (l.take i) (atM l i) (by omega) i k 0 (by omega) (by omega)
  unfold impl_Merge_74.f impl_Merge_90.f
  rw [show (0 : Int) = ((0 : Nat) : Int) from rfl, h1, Option.bind_some]
  show some (decide (r ≥ 0)) = _
  rw [h2, List.drop_zero, e]
  unfold freshB
  congr 2
  rw [Bool.eq_iff_iff, List.all_eq_true, List.all_eq_true]
  have g : ∀ j, j ∈ List.range i → atM (l.take i) j = atM l j := fun j hj => by
    have := List.mem_range.1 hj
    unfold atM; rw [List.getD_eq_getElem?_getD, List.getD_eq_getElem?_getD, List.getElem?_take_of_lt this]
  exact ⟨fun h j hj => by rw [← g j hj]; exact h j hj, fun h j hj => by rw [g j hj]; exact h j hj⟩
theorem impl_fresh_from (l : List S94) (hl : l.length ≤ 16) (rest : Option Bool) (c : Bool) (hc : rest = some c) (d : Nat) : ∀ (k i : Nat), i + d = l.length → d + 30 < k →
    (impl_MergesOk.l0 l k (i : Int)).bind (fun o => match o with | .inl r_ => some r_ | .inr _ => rest) = some (((List.range l.length).drop i).all (freshB l) && c) := by
  induction d with
  | zero =>
    intro k i hi hk
    obtain ⟨k, rfl⟩ : ∃ m, k = m + 1 := ⟨k - 1, by omega⟩
    unfold impl_MergesOk.l0 impl_MergesOk.b0
    rw [if_neg (by omega), List.drop_of_length_le (by simp; omega), hc]; rfl
  | succ d ih =>
    intro k i hi hk
    obtain ⟨k, rfl⟩ : ∃ m, k = m + 1 := ⟨k - 1, by omega⟩
    unfold impl_MergesOk.l0 impl_MergesOk.b0
    rw [if_pos (by omega), if_pos (by omega), if_pos (by omega), Int.toNat_natCast, all_drop _ _ i (by omega)]
    show ((impl_Merge_74.f k (l.take i) (atM l i).f0 (atM l i).f1).bind _).bind _ = _
    rw [impl_contains l i (by omega) hl k (by omega), Option.bind_some]
    cases freshB l i with
    | false => rfl
    | true => rw [if_neg (by simp), w64 (by omega) (by omega), show ((i : Int) + 1) = ((i + 1 : Nat) : Int) by omega, ih k (i + 1) (by omega) (by omega)]; rfl
theorem impl_token (x : Int) (i : Nat) (hi : i ≤ 16) : impl_isToken.f x (i : Int) = some (tokB i x) := by
  unfold impl_isToken.f
  rw [impl_inB, Option.bind_some, w64 (by omega) (by omega)]; rfl
theorem impl_one (s : List Int) (x : Int) (i : Nat) (hs : lowS s) (hl : s.length = i) (hi : i ≤ 16) (h : tokB i x = true) (k : Nat) : impl_sizesOf_1.g k x s = some (sz1 s x) := by
  obtain ⟨a0, a1, a2, a3, a4⟩ := sz1_bd s x i hs hl h
  unfold impl_sizesOf_1.g sz1
  by_cases c : x < 256
  · rw [if_pos c, if_pos c]
  · have := a2 c
    rw [if_neg c, if_neg c, w64 (by omega) (by omega), if_pos this]; rfl
theorem impl_sizes_from (l : List S94) (hl : l.length ≤ 16) (d : Nat) : ∀ (k i : Nat), i + d = l.length → lowS (szs l i) → d + 30 < k →
    ∃ r : List Int × Bool, (impl_sizesOf.l0 l k (i : Int) (szs l i)).bind (fun o => match o with | .inl r_ => some r_ | .inr ⟨_, xs⟩ => some (xs, true)) = some r ∧ r.2 = ((List.range l.length).drop i).all (sizB l) := by
  induction d with
  | zero =>
    intro k i hi hs hk
    obtain ⟨k, rfl⟩ : ∃ m, k = m + 1 := ⟨k - 1, by omega⟩
    unfold impl_sizesOf.l0 impl_sizesOf.b0
    rw [if_neg (by omega), List.drop_of_length_le (by simp; omega)]
    exact ⟨_, rfl, rfl⟩
  | succ d ih =>
    intro k i hi hs hk
    obtain ⟨k, rfl⟩ : ∃ m, k = m + 1 := ⟨k - 1, by omega⟩
    unfold impl_sizesOf.l0 impl_sizesOf.b0
    rw [if_pos (by omega), if_pos (by omega), Int.toNat_natCast, all_drop _ _ i (by omega)]
    show ∃ r, ((impl_isToken.f (atM l i).f0 (i : Int)).bind fun t45 => if t45 = true then (impl_isToken.f (atM l i).f1 (i : Int)).bind _ else _).bind _ = some r ∧ _
    rw [impl_token _ i (by omega), Option.bind_some]
    unfold sizB toksB
    cases h1 : tokB i (atM l i).f0 with
    | false => rw [if_neg (by simp)]; exact ⟨_, rfl, rfl⟩
    | true =>
      rw [if_pos rfl, impl_token _ i (by omega), Option.bind_some]
      cases h2 : tokB i (atM l i).f1 with
      | false => rw [if_neg (by simp)]; exact ⟨_, rfl, rfl⟩
      | true =>
        have ht : toksB l i = true := by unfold toksB; rw [h1, h2]; rfl
        have hb := szN_bd l i hs ht
        have hsl := szs_len l i
        rw [if_pos rfl]
        show ∃ r, ((impl_sizesOf_1.g k (atM l i).f0 (szs l i)).bind fun t57 => (impl_sizesOf_1.g k (atM l i).f1 (szs l i)).bind _).bind _ = some r ∧ _
        rw [impl_one _ _ i hs hsl (by omega) h1, Option.bind_some, impl_one _ _ i hs hsl (by omega) h2, Option.bind_some]
        show ∃ r, (if wrap64 (szN l i) > 64 then _ else if (szs l i).length < 4294967296 then impl_sizesOf.l0 l k (wrap64 ((i : Int) + 1)) (szs l i ++ [wrap64 (szN l i)]) else _).bind _ = some r ∧ _
        rw [w64 (i := szN l i) (by omega) (by omega)]
        by_cases c : szN l i > 64
        · rw [if_pos c, decide_eq_false (by omega)]; exact ⟨_, rfl, by simp⟩
        · rw [if_neg c, if_pos (by omega), decide_eq_true (by omega), w64 (by omega) (by omega), show ((i : Int) + 1) = ((i + 1 : Nat) : Int) by omega]
          obtain ⟨r, e1, e2⟩ := ih k (i + 1) (by omega) (low_snoc _ _ hs hb.1 (Int.not_lt.mp c)) (by omega)
          exact ⟨r, e1, by rw [e2]; rfl⟩
theorem impl_merges (l : List S94) (k : Nat) (hk : 100 < k) : impl_MergesOk.g k l = some (mergesB l) := by
  unfold impl_MergesOk.g mergesB
  by_cases c : (l.length : Int) > 16
  · rw [if_pos c, decide_eq_false (by omega)]; rfl
  · rw [if_neg c, decide_eq_true (by omega), Bool.true_and, all_both]
    obtain ⟨r, e1, e2⟩ := impl_sizes_from l (by omega) l.length k 0 (by omega) (fun z hz => by cases hz) (by omega)
    rw [List.drop_zero] at e2
    have g := impl_fresh_from l (by omega) ((impl_sizesOf.g k l).bind fun t => some t.2) r.2 (by
      have e3 : impl_sizesOf.g k l = some r := e1
      rw [e3, Option.bind_some]) l.length k 0 (by omega) (by omega)
    rw [List.drop_zero, e2] at g
    exact g

def vocabM (x : S47) : Int := wrap64 (256 + (x.f3.length : Int))
def rowI (n : Int) (l : List Int) : Bool := decide ((l.length : Int) = n) && l.all fun x => decide (-127 ≤ x) && decide (x ≤ 127)
/-- what a good model is. -/
def modelB (x : S47) : Bool := widthB x.f0 && ((decide (1 ≤ x.f1) && decide (x.f1 ≤ 2)) && (mergesB x.f3 && (decide ((x.f4.length : Int) = vocabM x) && ((decide (1 ≤ (x.f5.length : Int)) && decide ((x.f5.length : Int) ≤ 2)) &&
  (x.f4.all (rowI x.f0) && (x.f5.all (fun y => layerB y x.f0) && (gainB x.f6 x.f0 && (mfit x.f7 x.f0 (vocabM x) && turnsB x.f8.f0 x.f8.f1 x.f2 (wrap64 (Int.tdiv (wrap64 (Int.tdiv x.f0 x.f1)) 2))))))))))
theorem spec_layers_from (x : S47) (L : Nat → Int → Option (Bool ⊕ Int)) (hL : ∀ k i, L (k + 1) i = spec_ModelOk.b0 x (L k) k i) (hl : x.f5.length ≤ 1048576) (hs : ∀ y ∈ x.f5, iLayer y ≤ 1048576) (rest : Option Bool) (c : Bool) (hc : rest = some c) (d : Nat) : ∀ (k i : Nat), i + d = x.f5.length → d + 3000001 < k →
    (L k (i : Int)).bind (fun o => match o with | .inl r_ => some r_ | .inr _ => rest) = some (((List.range x.f5.length).drop i).all (fun i => layerB (x.f5.getD i o86) x.f0) && c) := by
  induction d with
  | zero =>
    intro k i hi hk
    obtain ⟨k, rfl⟩ : ∃ m, k = m + 1 := ⟨k - 1, by omega⟩
    rw [hL]; unfold spec_ModelOk.b0
    rw [if_neg (by omega), List.drop_of_length_le (by simp; omega), hc]; rfl
  | succ d ih =>
    intro k i hi hk
    obtain ⟨k, rfl⟩ : ∃ m, k = m + 1 := ⟨k - 1, by omega⟩
    have hm : x.f5.getD i o86 ∈ x.f5 := by rw [List.getD_eq_getElem?_getD, List.getElem?_eq_getElem (by omega)]; exact List.getElem_mem _
    rw [hL]; unfold spec_ModelOk.b0
    rw [if_pos (by omega), if_pos (by omega), Int.toNat_natCast, all_drop _ _ i (by omega), spec_layer _ _ (hs _ hm) k (by omega), Option.bind_some]
    cases layerB (x.f5.getD i o86) x.f0 with
    | false => rfl
    | true => rw [if_pos rfl, w64 (by omega) (by omega), show ((i : Int) + 1) = ((i + 1 : Nat) : Int) by omega, ih k (i + 1) (by omega) (by omega)]; rfl
theorem spec_rows_from (x : S47) (L : Nat → Int → Option (Bool ⊕ Int)) (hL : ∀ k i, L (k + 1) i = spec_ModelOk.b1 x (L k) k i) (hw : x.f0 ≤ 8) (hl : x.f4.length ≤ 1048576) (rest : Option Bool) (c : Bool) (hc : rest = some c) (d : Nat) : ∀ (k i : Nat), i + d = x.f4.length → d + 20 < k →
    (L k (i : Int)).bind (fun o => match o with | .inl r_ => some r_ | .inr _ => rest) = some (((List.range x.f4.length).drop i).all (fun i => rowI x.f0 (x.f4.getD i [])) && c) := by
  induction d with
  | zero =>
    intro k i hi hk
    obtain ⟨k, rfl⟩ : ∃ m, k = m + 1 := ⟨k - 1, by omega⟩
    rw [hL]; unfold spec_ModelOk.b1
    rw [if_neg (by omega), List.drop_of_length_le (by simp; omega), hc]; rfl
  | succ d ih =>
    intro k i hi hk
    obtain ⟨k, rfl⟩ : ∃ m, k = m + 1 := ⟨k - 1, by omega⟩
    rw [hL]; unfold spec_ModelOk.b1
    rw [if_pos (by omega), if_pos (by omega), Int.toNat_natCast, all_drop _ _ i (by omega)]
    unfold rowI
    by_cases h1 : ((x.f4.getD i []).length : Int) = x.f0
    · rw [if_pos h1, decide_eq_true h1, all_tells _ _ _ (by omega) k (by omega), Option.bind_some, Bool.true_and]
      cases (x.f4.getD i []).all fun x => decide (-127 ≤ x) && decide (x ≤ 127) with
      | false => rfl
      | true => rw [if_pos rfl, w64 (by omega) (by omega), show ((i : Int) + 1) = ((i + 1 : Nat) : Int) by omega, ih k (i + 1) (by omega) (by omega)]; rfl
    · rw [if_neg h1, decide_eq_false h1]; rfl
theorem model_size (x : S47) (h : iModel x ≤ 1048576) : x.f3.length ≤ 1048576 ∧ x.f4.length ≤ 1048576 ∧ x.f5.length ≤ 1048576 ∧ (∀ y ∈ x.f5, iLayer y ≤ 1048576) ∧ x.f6.length ≤ 1048576 ∧ iMatrix x.f7 ≤ 1048576 := by
  unfold iModel at h
  have e := mIntss_eq x.f4
  have g : iLayers x.f5 = x.f5.length + sumS iLayer x.f5 := rfl
  exact ⟨by omega, by omega, by omega, fun y hy => by have := sumS_le iLayer x.f5 y hy; omega, by omega, by omega⟩
theorem spec_model_tail (x : S47) (h : iModel x ≤ 1048576) (hw : x.f0 ≤ 8) (h0 : x.f1 ≠ 0) (L0 L1 : Nat → Int → Option (Bool ⊕ Int)) (hL0 : ∀ k i, L0 (k + 1) i = spec_ModelOk.b0 x (L0 k) k i) (hL1 : ∀ k i, L1 (k + 1) i = spec_ModelOk.b1 x (L1 k) k i) (k : Nat) (hk : 5000000 < k) :
    ((spec_MergesOk.f k x.f3).bind fun t16 => (if t16 = true then ((spec_Vocab.g k x).bind fun t24 => (if (x.f4.length : Int) = t24 then ((spec_l01In.f (x.f5.length : Int) 1 2).bind fun t32 => (if t32 = true then ((L1 k 0).bind (fun o110 => match o110 with | .inl r_ => some r_ | .inr i42 => ((L0 k 0).bind (fun o91 => match o91 with | .inl r_ => some r_ | .inr i51 => ((spec_GainOk.f k x.f6 x.f0).bind fun t60 => (if t60 = true then ((spec_Vocab.g k x).bind fun t72 => ((spec_l10Matrix.g k x.f7 x.f0 t72).bind fun t75 => (if t75 = true then (if x.f1 ≠ 0 then ((spec_TurnsOk.f k x.f8.f0 x.f8.f1 x.f2 (wrap64 (Int.tdiv (wrap64 (Int.tdiv x.f0 x.f1)) 2))).bind fun t88 => (some t88)) else none) else (some false)))) else (some false))))))) else (some false))) else (some false))) else (some false)))
      = some (mergesB x.f3 && (decide ((x.f4.length : Int) = vocabM x) && ((decide (1 ≤ (x.f5.length : Int)) && decide ((x.f5.length : Int) ≤ 2)) &&
  (x.f4.all (rowI x.f0) && (x.f5.all (fun y => layerB y x.f0) && (gainB x.f6 x.f0 && (mfit x.f7 x.f0 (vocabM x) && turnsB x.f8.f0 x.f8.f1 x.f2 (wrap64 (Int.tdiv (wrap64 (Int.tdiv x.f0 x.f1)) 2))))))))) := by
  obtain ⟨s3, s4, s5, s5', s6, s7⟩ := model_size x h
  have hv : spec_Vocab.g k x = some (vocabM x) := rfl
  refine bind_and _ _ _ _ (spec_merges x.f3 k (by omega)) fun _ => ?_
  rw [hv, Option.bind_some]
  by_cases c : (x.f4.length : Int) = vocabM x
  · rw [if_pos c, decide_eq_true c, Bool.true_and]
    refine bind_and _ _ _ _ (spec_in _ 1 2) fun _ => ?_
    have t1 : ((spec_GainOk.f k x.f6 x.f0).bind fun t60 => (if t60 = true then ((spec_Vocab.g k x).bind fun t72 => ((spec_l10Matrix.g k x.f7 x.f0 t72).bind fun t75 => (if t75 = true then (if x.f1 ≠ 0 then ((spec_TurnsOk.f k x.f8.f0 x.f8.f1 x.f2 (wrap64 (Int.tdiv (wrap64 (Int.tdiv x.f0 x.f1)) 2))).bind fun t88 => (some t88)) else none) else (some false)))) else (some false)))
        = some (gainB x.f6 x.f0 && (mfit x.f7 x.f0 (vocabM x) && turnsB x.f8.f0 x.f8.f1 x.f2 (wrap64 (Int.tdiv (wrap64 (Int.tdiv x.f0 x.f1)) 2)))) := by
      refine bind_and _ _ _ _ (spec_gainB x.f6 x.f0 s6 k (by omega)) fun _ => ?_
      rw [hv, Option.bind_some]
      refine bind_and _ _ _ _ (spec_mfit x.f7 x.f0 _ s7 k (by omega)) fun _ => ?_
      rw [if_pos h0, spec_turns _ _ _ _ k (by omega), Option.bind_some]
    have r1 := spec_rows_from x L1 hL1 hw s4 _ _ (spec_layers_from x L0 hL0 s5 s5' _ _ t1 x.f5.length k 0 (by omega) (by omega)) x.f4.length k 0 (by omega) (by omega)
    rw [List.drop_zero, List.drop_zero, ← all_range (rowI x.f0) [] x.f4, ← all_range (fun y => layerB y x.f0) o86 x.f5] at r1
    exact r1
  · rw [if_neg c, decide_eq_false c]; rfl
theorem spec_model (x : S47) (h : iModel x ≤ 1048576) (k : Nat) (hk : 5000000 < k) : spec_ModelOk.g k x = some (modelB x) := by
  unfold spec_ModelOk.g modelB
  refine bind_and _ _ _ _ (spec_width x.f0) fun hw => ?_
  have hw8 : x.f0 ≤ 8 := by have := width_facts _ hw; omega
  by_cases c1 : x.f1 = 1
  · rw [if_pos c1, show (decide (1 ≤ x.f1) && decide (x.f1 ≤ 2)) = true by rw [c1]; rfl, Bool.true_and]
    exact spec_model_tail x h hw8 (by omega) (spec_ModelOk.l0 x) (spec_ModelOk.l1 x) (fun _ _ => rfl) (fun _ _ => rfl) k hk
  · rw [if_neg c1]
    by_cases c2 : x.f1 = 2
    · rw [if_pos c2, show (decide (1 ≤ x.f1) && decide (x.f1 ≤ 2)) = true by rw [c2]; rfl, Bool.true_and]
      exact spec_model_tail x h hw8 (by omega) (spec_ModelOk.l2 x) (spec_ModelOk.l3 x) (fun _ _ => rfl) (fun _ _ => rfl) k hk
    · rw [if_neg c2, show (decide (1 ≤ x.f1) && decide (x.f1 ≤ 2)) = false by rw [Bool.eq_false_iff]; intro g; simp only [Bool.and_eq_true, decide_eq_true_eq] at g; omega]; rfl
theorem impl_rows_from (x : S47) (l : List (List Int)) (hl : l.length ≤ 1048576) (d : Nat) : ∀ (k i : Nat), i + d = l.length → d < k →
    ∃ r : Int, (slices_IndexFunc_int_int_57.l0 l x k (i : Int)).bind (fun o => match o with | .inl r_ => some r_ | .inr _ => some (-1)) = some r ∧ decide (r ≥ 0) = !(((List.range l.length).drop i).all fun i => rowI x.f0 (l.getD i [])) := by
  induction d with
  | zero =>
    intro k i hi hk
    obtain ⟨k, rfl⟩ : ∃ m, k = m + 1 := ⟨k - 1, by omega⟩
    unfold slices_IndexFunc_int_int_57.l0 slices_IndexFunc_int_int_57.b0
    rw [if_neg (by omega), List.drop_of_length_le (by simp; omega)]
    exact ⟨_, rfl, rfl⟩
  | succ d ih =>
    intro k i hi hk
    obtain ⟨k, rfl⟩ : ∃ m, k = m + 1 := ⟨k - 1, by omega⟩
    unfold slices_IndexFunc_int_int_57.l0 slices_IndexFunc_int_int_57.b0
    have e : impl_ModelOk_1.g k (l.getD i []) x = some (!rowI x.f0 (l.getD i [])) := by
      unfold impl_ModelOk_1.g rowI impl_allIn.f
      by_cases c : ((l.getD i []).length : Int) = x.f0
      · rw [if_pos c, decide_eq_true c]; rfl
      · rw [if_neg c, decide_eq_false c]; rfl
    rw [if_pos (by omega), if_pos (by omega), Int.toNat_natCast, all_drop _ _ i (by omega), e, Option.bind_some]
    cases rowI x.f0 (l.getD i []) with
    | false => rw [if_pos (show (!false) = true from rfl)]; exact ⟨_, rfl, by rw [decide_eq_true (by omega)]; rfl⟩
    | true =>
      rw [if_neg (by simp), w64 (by omega) (by omega), show ((i : Int) + 1) = ((i + 1 : Nat) : Int) by omega]
      exact ih k (i + 1) (by omega) (by omega)
theorem impl_layers_from (x : S47) (l : List S86) (hl : l.length ≤ 1048576) (hs : ∀ y ∈ l, iLayer y ≤ 1048576) (d : Nat) : ∀ (k i : Nat), i + d = l.length → d + 3000 < k →
    ∃ r : Int, (slices_IndexFunc_impl_Layer_impl_Layer_60.l0 l x k (i : Int)).bind (fun o => match o with | .inl r_ => some r_ | .inr _ => some (-1)) = some r ∧ decide (r ≥ 0) = !(((List.range l.length).drop i).all fun i => layerB (l.getD i o86) x.f0) := by
  induction d with
  | zero =>
    intro k i hi hk
    obtain ⟨k, rfl⟩ : ∃ m, k = m + 1 := ⟨k - 1, by omega⟩
    unfold slices_IndexFunc_impl_Layer_impl_Layer_60.l0 slices_IndexFunc_impl_Layer_impl_Layer_60.b0
    rw [if_neg (by omega), List.drop_of_length_le (by simp; omega)]
    exact ⟨_, rfl, rfl⟩
  | succ d ih =>
    intro k i hi hk
    obtain ⟨k, rfl⟩ : ∃ m, k = m + 1 := ⟨k - 1, by omega⟩
    unfold slices_IndexFunc_impl_Layer_impl_Layer_60.l0 slices_IndexFunc_impl_Layer_impl_Layer_60.b0
    have hm : l.getD i o86 ∈ l := by rw [List.getD_eq_getElem?_getD, List.getElem?_eq_getElem (by omega)]; exact List.getElem_mem _
    have e : impl_ModelOk_2.g k (l.getD i o86) x = some (!layerB (l.getD i o86) x.f0) := by
      unfold impl_ModelOk_2.g
      rw [impl_layer _ _ (hs _ hm) k (by omega)]; rfl
    rw [if_pos (by omega), if_pos (by omega), Int.toNat_natCast, all_drop _ _ i (by omega), e, Option.bind_some]
    cases layerB (l.getD i o86) x.f0 with
    | false => rw [if_pos (show (!false) = true from rfl)]; exact ⟨_, rfl, by rw [decide_eq_true (by omega)]; rfl⟩
    | true =>
      rw [if_neg (by simp), w64 (by omega) (by omega), show ((i : Int) + 1) = ((i + 1 : Nat) : Int) by omega]
      exact ih k (i + 1) (by omega) (by omega)
theorem bind_nand (p : Option Bool) (a : Bool) (b : Option Bool) (c : Bool) (hp : p = some (!a)) (h : a = true → b = some c) : (p.bind fun t => if t = true then some false else b) = some (a && c) := by
  rw [hp, Option.bind_some]
  cases a with
  | false => rfl
  | true => rw [if_neg (by simp), h rfl]; rfl
theorem impl_model (x : S47) (h : iModel x ≤ 1048576) (k : Nat) (hk : 5000000 < k) : impl_ModelOk.g k x = some (modelB x) := by
  obtain ⟨s3, s4, s5, s5', s6, s7⟩ := model_size x h
  unfold impl_ModelOk.g modelB
  refine bind_and _ _ _ _ (impl_width x.f0) fun hw => bind_and _ _ _ _ (impl_inB x.f1 1 2) fun h1 => bind_and _ _ _ _ (impl_merges x.f3 k (by omega)) fun _ => ?_
  have h0 : x.f1 ≠ 0 := by simp only [Bool.and_eq_true, decide_eq_true_eq] at h1; omega
  rw [show impl_Vocab.g k x = some (vocabM x) from rfl, Option.bind_some]
  by_cases c : (x.f4.length : Int) = vocabM x
  · rw [if_pos c, decide_eq_true c, Bool.true_and]
    obtain ⟨r1, e1, g1⟩ := impl_rows_from x x.f4 s4 x.f4.length k 0 (by omega) (by omega)
    obtain ⟨r2, e2, g2⟩ := impl_layers_from x x.f5 s5 s5' x.f5.length k 0 (by omega) (by omega)
    rw [List.drop_zero, ← all_range (rowI x.f0) [] x.f4] at g1
    rw [List.drop_zero, ← all_range (fun y => layerB y x.f0) o86 x.f5] at g2
    refine bind_and _ _ _ _ (impl_inB _ 1 2) fun _ => bind_nand _ _ _ _ ?_ fun _ => bind_nand _ _ _ _ ?_ fun _ => bind_and _ _ _ _ (impl_gainB x.f6 x.f0) fun _ => ?_
    · have e3 : slices_IndexFunc_int_int_57.g k x.f4 x = some r1 := e1
      unfold slices_ContainsFunc_int_int_57.g
      rw [e3, Option.bind_some, g1]
    · have e3 : slices_IndexFunc_impl_Layer_impl_Layer_60.g k x.f5 x = some r2 := e2
      unfold slices_ContainsFunc_impl_Layer_impl_Layer_60.g
      rw [e3, Option.bind_some, g2]
    · rw [Option.bind_some]
      refine bind_and _ _ _ _ (impl_mfit x.f7 x.f0 _ s7 k (by omega)) fun _ => ?_
      rw [if_pos h0, impl_turns, Option.bind_some]
  · rw [if_neg c, decide_eq_false c]; rfl

section
variable {α ρ : Type} (l : List α) (B : α → Bool)
/-- a loop over all of a list that leaves at the first that is not so. -/
theorem loopAll (bad : ρ) (L : Nat → Int → Option (ρ ⊕ Int)) (body : Nat → Int → Option (ρ ⊕ Int) → Option (ρ ⊕ Int)) (c : Nat)
    (hL : ∀ k i, L (k + 1) i = if i < (l.length : Int) then (if 0 ≤ i ∧ i < (l.length : Int) then body k i (L k (wrap64 (i + 1))) else none) else some (.inr i))
    (hB : ∀ k, c < k → ∀ (i : Nat) (h : i < l.length) r, body k (i : Int) r = if B l[i] = true then r else some (.inl bad)) (hl : l.length ≤ 4611686018427387904) (d : Nat) :
    ∀ (k i : Nat), i + d = l.length → d + c < k → L k (i : Int) = if (l.drop i).all B = true then some (.inr (l.length : Int)) else some (.inl bad) := by
  induction d with
  | zero =>
    intro k i hi hk
    obtain ⟨k, rfl⟩ : ∃ m, k = m + 1 := ⟨k - 1, by omega⟩
    rw [hL, if_neg (by omega), List.drop_of_length_le (by omega), if_pos (by simp), show (i : Int) = (l.length : Int) by omega]
  | succ d ih =>
    intro k i hi hk
    obtain ⟨k, rfl⟩ : ∃ m, k = m + 1 := ⟨k - 1, by omega⟩
    have hlt : i < l.length := by omega
    rw [hL, if_pos (by omega), if_pos (by omega), hB k (by omega) i hlt, List.drop_eq_getElem_cons hlt, List.all_cons, w64 (by omega) (by omega), show ((i : Int) + 1) = ((i + 1 : Nat) : Int) by omega, ih k (i + 1) (by omega) (by omega)]
    cases B l[i] <;> rfl
theorem loopAll0 (bad : ρ) (L : Nat → Int → Option (ρ ⊕ Int)) (body : Nat → Int → Option (ρ ⊕ Int) → Option (ρ ⊕ Int)) (c : Nat)
    (hL : ∀ k i, L (k + 1) i = if i < (l.length : Int) then (if 0 ≤ i ∧ i < (l.length : Int) then body k i (L k (wrap64 (i + 1))) else none) else some (.inr i))
    (hB : ∀ k, c < k → ∀ (i : Nat) (h : i < l.length) r, body k (i : Int) r = if B l[i] = true then r else some (.inl bad)) (hl : l.length ≤ 4611686018427387904) (k : Nat) (hk : l.length + c < k) :
    L k 0 = if l.all B = true then some (.inr (l.length : Int)) else some (.inl bad) := by
  have := loopAll l B bad L body c hL hB hl l.length k 0 (by omega) hk
  rw [List.drop_zero] at this
  exact this
/-- slices.IndexFunc and ContainsFunc of what is not so. -/
theorem loopAny (z : α) (L : Nat → Int → Option (Int ⊕ Int)) (E : Nat → α → Option Bool) (c : Nat)
    (hL : ∀ k i, L (k + 1) i = if i < (l.length : Int) then (if 0 ≤ i ∧ i < (l.length : Int) then ((E k (l.getD i.toNat z)).bind fun t => if t = true then some (.inl i) else L k (wrap64 (i + 1))) else none) else some (.inr i))
    (hE : ∀ k, c < k → ∀ x ∈ l, E k x = some (!B x)) (hl : l.length ≤ 4611686018427387904) (d : Nat) : ∀ (k i : Nat), i + d = l.length → d + c < k →
    ∃ r : Int, (L k (i : Int)).bind (fun o => match o with | .inl r_ => some r_ | .inr _ => some (-1)) = some r ∧ decide (r ≥ 0) = !((l.drop i).all B) := by
  induction d with
  | zero =>
    intro k i hi hk
    obtain ⟨k, rfl⟩ : ∃ m, k = m + 1 := ⟨k - 1, by omega⟩
    rw [hL, if_neg (by omega), List.drop_of_length_le (by omega)]
    exact ⟨_, rfl, rfl⟩
  | succ d ih =>
    intro k i hi hk
    obtain ⟨k, rfl⟩ : ∃ m, k = m + 1 := ⟨k - 1, by omega⟩
    have hlt : i < l.length := by omega
    rw [hL, if_pos (by omega), if_pos (by omega), getD_int l z i hlt, hE k (by omega) _ (List.getElem_mem hlt), Option.bind_some, List.drop_eq_getElem_cons hlt, List.all_cons]
    cases hb : B l[i] with
    | false => exact ⟨(i : Int), rfl, by rw [decide_eq_true (by omega)]; rfl⟩
    | true =>
      obtain ⟨r, e, g⟩ := ih k (i + 1) (by omega) (by omega)
      refine ⟨r, ?_, by rw [g]; rfl⟩
      rw [if_neg (by simp), w64 (by omega) (by omega), show ((i : Int) + 1) = ((i + 1 : Nat) : Int) by omega]
      exact e
theorem loopAny0 (z : α) (L : Nat → Int → Option (Int ⊕ Int)) (E : Nat → α → Option Bool) (c : Nat)
    (hL : ∀ k i, L (k + 1) i = if i < (l.length : Int) then (if 0 ≤ i ∧ i < (l.length : Int) then ((E k (l.getD i.toNat z)).bind fun t => if t = true then some (.inl i) else L k (wrap64 (i + 1))) else none) else some (.inr i))
    (hE : ∀ k, c < k → ∀ x ∈ l, E k x = some (!B x)) (hl : l.length ≤ 4611686018427387904) (k : Nat) (hk : l.length + c < k) :
    (((L k 0).bind (fun o => match o with | .inl r_ => some r_ | .inr _ => some (-1))).bind fun t => some (decide (t ≥ 0))) = some (!(l.all B)) := by
  obtain ⟨r, e, g⟩ := loopAny l B z L E c hL hE hl l.length k 0 (by omega) hk
  rw [List.drop_zero] at g
  rw [show (0 : Int) = ((0 : Nat) : Int) from rfl, e, Option.bind_some]
  exact congrArg some g
/-- a loop that puts one behind the other. -/
theorem loopMap {β : Type} (g : α → β) (L : Nat → List β → Int → Option (List β × Int)) (body : Nat → Int → (β → Option (List β × Int)) → Option (List β × Int)) (c : Nat)
    (hL : ∀ k xs i, L (k + 1) xs i = if i < (l.length : Int) then (if 0 ≤ i ∧ i < (l.length : Int) then body k i (fun b => if xs.length < 4294967296 then L k (xs ++ [b]) (wrap64 (i + 1)) else none) else none) else some (xs, i))
    (hB : ∀ k, c < k → ∀ (i : Nat) (h : i < l.length) r, body k (i : Int) r = r (g l[i])) (hl : l.length < 4294967296) (d : Nat) :
    ∀ (k i : Nat), i + d = l.length → d + c < k → L k ((l.take i).map g) (i : Int) = some (l.map g, (l.length : Int)) := by
  induction d with
  | zero =>
    intro k i hi hk
    obtain ⟨k, rfl⟩ : ∃ m, k = m + 1 := ⟨k - 1, by omega⟩
    rw [hL, if_neg (by omega), List.take_of_length_le (by omega), show (i : Int) = (l.length : Int) by omega]
  | succ d ih =>
    intro k i hi hk
    obtain ⟨k, rfl⟩ : ∃ m, k = m + 1 := ⟨k - 1, by omega⟩
    have hlt : i < l.length := by omega
    have e : (l.take i).map g ++ [g l[i]] = (l.take (i + 1)).map g := by rw [List.take_succ_eq_append_getElem hlt, List.map_append]; rfl
    rw [hL, if_pos (by omega), if_pos (by omega), hB k (by omega) i hlt, if_pos (by simp; omega), w64 (by omega) (by omega), show ((i : Int) + 1) = ((i + 1 : Nat) : Int) by omega, e, ih k (i + 1) (by omega) (by omega)]
theorem loopMap0 {β : Type} (g : α → β) (L : Nat → List β → Int → Option (List β × Int)) (body : Nat → Int → (β → Option (List β × Int)) → Option (List β × Int)) (c : Nat)
    (hL : ∀ k xs i, L (k + 1) xs i = if i < (l.length : Int) then (if 0 ≤ i ∧ i < (l.length : Int) then body k i (fun b => if xs.length < 4294967296 then L k (xs ++ [b]) (wrap64 (i + 1)) else none) else none) else some (xs, i))
    (hB : ∀ k, c < k → ∀ (i : Nat) (h : i < l.length) r, body k (i : Int) r = r (g l[i])) (hl : l.length < 4294967296) (k : Nat) (hk : l.length + c < k) : L k [] 0 = some (l.map g, (l.length : Int)) :=
  loopMap l g L body c hL hB hl l.length k 0 (by omega) hk
end

def mPart (x : S107) : Nat := x.f1.length
def mParts : List S107 → Nat := szL mPart
def mPartss : List (List S107) → Nat := szL mParts
def mCell (x : S24) : Nat := mPartss x.f0 + mPartss x.f1
def mCells : List S24 → Nat := szL mCell
theorem szPart_m (k : Nat) (x : S107) (n : Int) (ok : okT107 x) (_ : mPart x < k) (h0 : 0 ≤ n) (h1 : n ≤ 1048576) : laws_szPart.f x.f0 x.f1 n = lessS n (mPart x) :=
  sz_end (szInts_tells _ ok.2.1 n h0 h1) h0
theorem szParts_m (k : Nat) (x : List S107) (n : Int) (ok : okT75 x) (hk : mParts x < k) (h0 : 0 ≤ n) (h1 : n ≤ 1048576) : laws_szPartS.f k x n = lessS n (mParts x) :=
  sz_list z107 laws_szPartS.l0 (fun _ x n => laws_szPart.f x.f0 x.f1 n) mPart okT107 (fun _ _ _ _ => rfl) szPart_m k x n ok hk h0 h1
theorem szPartss_m (k : Nat) (x : List (List S107)) (n : Int) (ok : okT22 x) (hk : mPartss x < k) (h0 : 0 ≤ n) (h1 : n ≤ 1048576) : laws_szPartSS.f k x n = lessS n (mPartss x) :=
  sz_list [] laws_szPartSS.l0 laws_szPartS.f mParts okT75 (fun _ _ _ _ => rfl) szParts_m k x n ok hk h0 h1
theorem szCell_m (k : Nat) (x : S24) (n : Int) (ok : okT24 x) (hk : mCell x < k) (h0 : 0 ≤ n) (h1 : n ≤ 1048576) : laws_szCell.f k x.f0 x.f1 n = lessS n (mCell x) := by
  have h : mCell x = mPartss x.f0 + mPartss x.f1 := rfl
  exact sz_then (szPartss_m k x.f0 n ok.1 (by omega) h0 h1) h0 fun g => sz_end (szPartss_m k x.f1 _ ok.2 (by omega) (by omega) (by omega)) (by omega)

def gPart (x : S107) : S111 := ⟨x.f0, x.f1⟩
def gParts : List S107 → List S111 := List.map gPart
def gPartss : List (List S107) → List (List S111) := List.map gParts
def gCell (x : S24) : S40 := ⟨gPartss x.f0, gPartss x.f1⟩
def gCells : List S24 → List S40 := List.map gCell
-- what is small enough: its size is within the budget
def inPart (x : S107) : Prop := mPart x ≤ 1048576
theorem in_list {α : Type} {s : α → Nat} {l : List α} (h : szL s l ≤ 1048576) : l.length ≤ 9223372036854775807 ∧ ∀ x ∈ l, s x ≤ 1048576 := by
  unfold szL at h; exact ⟨by omega, fun x hx => by have := sumS_le s l x hx; omega⟩
theorem toPart_m (k : Nat) (x : S107) (h : mPart x ≤ 1048576) (hk : mPart x < k) : ∃ t, laws_toPart.f k x.f0 x.f1 = some t ∧ (⟨t.1, t.2⟩ : S111) = gPart x := by
  refine ⟨(x.f0, x.f1), ?_, rfl⟩
  have g : x.f1.length = mPart x := rfl
  unfold laws_toPart.f
  rw [to_tells x.f1 (by omega) k (by omega), Option.bind_some]
theorem toParts_m (k : Nat) (x : List S107) (h : mParts x ≤ 1048576) (hk : mParts x < k) : ∃ t, laws_toPartS.f k x = some t ∧ t = gParts x :=
  ⟨_, to_list z107 z111 laws_toPartS.l0 (fun k x => laws_toPart.f k x.f0 x.f1) (fun t => ⟨t.1, t.2⟩) gPart mPart (fun x => mPart x ≤ 1048576) (fun _ _ _ _ => rfl) toPart_m _ k x (in_list h) (by have := (show szL mPart x ≤ 1048576 from h); unfold szL at this; omega) hk, rfl⟩
theorem toPartss_m (k : Nat) (x : List (List S107)) (h : mPartss x ≤ 1048576) (hk : mPartss x < k) : ∃ t, laws_toPartSS.f k x = some t ∧ t = gPartss x :=
  ⟨_, to_list [] [] laws_toPartSS.l0 laws_toPartS.f (fun t => t) gParts mParts (fun x => mParts x ≤ 1048576) (fun _ _ _ _ => rfl) toParts_m _ k x (in_list h) (by have := (show szL mParts x ≤ 1048576 from h); unfold szL at this; omega) hk, rfl⟩
theorem toCell_m (k : Nat) (x : S24) (h : mCell x ≤ 1048576) (hk : mCell x < k) : ∃ t, laws_toCell.f k x.f0 x.f1 = some t ∧ (⟨t.1, t.2⟩ : S40) = gCell x := by
  have g : mCell x = mPartss x.f0 + mPartss x.f1 := rfl
  obtain ⟨t0, e0, rfl⟩ := toPartss_m k x.f0 (by omega) (by omega)
  obtain ⟨t1, e1, rfl⟩ := toPartss_m k x.f1 (by omega) (by omega)
  refine ⟨(gPartss x.f0, gPartss x.f1), ?_, rfl⟩
  unfold laws_toCell.f
  rw [e0, Option.bind_some, e1, Option.bind_some]

def clampZ (x m : Int) : Int := if x > m then m else if x < -m then -m else x

theorem spec_clamp (x m : Int) (h : 0 ≤ m) (h2 : m ≤ 1000000000) : spec_l03Clamp.f x m = some (clampZ x m) := by
  unfold spec_l03Clamp.f clampZ
  rw [w64 (by omega) (by omega)]
  split
  · rfl
  · split <;> rfl

def pw (s : Int) : Int := 2 ^ s.toNat
theorem pw_pos (s : Int) : 0 < pw s := by unfold pw; exact Int.pow_pos (by omega)
theorem pw_succ (n : Nat) : pw ((n : Int) + 1) = 2 * pw (n : Int) := by
  unfold pw
  rw [show ((n : Int) + 1).toNat = n + 1 by omega, Int.pow_succ, Int.mul_comm, Int.toNat_natCast]
theorem pw_bd (s : Int) (h : s ≤ 24) : pw s ≤ 16777216 := by
  unfold pw
  have : (2 : Nat) ^ s.toNat ≤ 2 ^ 24 := Nat.pow_le_pow_right (by omega) (by omega)
  have h2 : ((2 ^ s.toNat : Nat) : Int) ≤ ((2 ^ 24 : Nat) : Int) := Int.ofNat_le.2 this
  rw [Int.natCast_pow] at h2
  exact h2
theorem pow_from (n : Nat) (hn : n ≤ 24) (d : Nat) : ∀ (k i : Nat), i + d = n → d < k → spec_l03Pow.l0 k (n : Int) (pw (i : Int)) (i : Int) = some (pw (n : Int)) := by
  induction d with
  | zero =>
    intro k i h hk
    obtain ⟨k, rfl⟩ : ∃ m, k = m + 1 := ⟨k - 1, by omega⟩
    obtain rfl : i = n := by omega
    rw [spec_l03Pow.l0, if_neg (by omega)]
  | succ d ih =>
    intro k i h hk
    obtain ⟨k, rfl⟩ : ∃ m, k = m + 1 := ⟨k - 1, by omega⟩
    have h1 := pw_bd (i : Int) (by omega)
    have h2 := pw_pos (i : Int)
    rw [spec_l03Pow.l0, if_pos (by omega), w64 (i := 2 * pw (i : Int)) (by omega) (by omega), w64 (i := (i : Int) + 1) (by omega) (by omega), ← pw_succ]
    exact ih k (i + 1) (by omega) (by omega)
theorem spec_pow (n : Int) (h0 : 0 ≤ n) (h1 : n ≤ 24) (k : Nat) (hk : 24 < k) : spec_l03Pow.f k n = some (pw n) := by
  obtain ⟨n, rfl⟩ := Int.eq_ofNat_of_zero_le h0
  unfold spec_l03Pow.f
  exact pow_from n (by omega) n k 0 (by omega) (by omega)
theorem shl_pw (n : Int) (h0 : 0 ≤ n) (h1 : n ≤ 24) : shl .i64 1 n = pw n := by
  have h2 := pw_bd n h1
  have h3 := pw_pos n
  unfold shl
  rw [show min n.toNat IntKind.i64.bits = n.toNat by rw [Nat.min_eq_left]; show n.toNat ≤ 64; omega, Int.one_mul, IntKind.wrap_i64]
  unfold pw at *
  omega

theorem zp_bd (z s : Int) (h0 : -15 ≤ z) (h1 : z ≤ 15) (s0 : 0 ≤ s) (s1 : s ≤ 4) : -240 ≤ z * pw s ∧ z * pw s ≤ 240 := by
  have : s = 0 ∨ s = 1 ∨ s = 2 ∨ s = 3 ∨ s = 4 := by omega
  rcases this with rfl | rfl | rfl | rfl | rfl
  · rw [show pw 0 = 1 from rfl]; omega
  · rw [show pw 1 = 2 from rfl]; omega
  · rw [show pw 2 = 4 from rfl]; omega
  · rw [show pw 3 = 8 from rfl]; omega
  · rw [show pw 4 = 16 from rfl]; omega
theorem shl_mul (z s : Int) (h0 : -15 ≤ z) (h1 : z ≤ 15) (s0 : 0 ≤ s) (s1 : s ≤ 4) : shl .i64 z s = z * pw s := by
  have h := zp_bd z s h0 h1 s0 s1
  unfold shl
  rw [show min s.toNat IntKind.i64.bits = s.toNat by rw [Nat.min_eq_left]; show s.toNat ≤ 64; omega, IntKind.wrap_i64]
  unfold pw at *
  omega
def keptB (s : Int) (l : List Int) : Bool := decide (0 ≤ s) && decide (s ≤ 4) && decide (1 ≤ l.length) && decide (l.length ≤ 8) && l.all fun z => decide (-15 ≤ z) && decide (z ≤ 15)
def putL (s : Int) (l : List Int) : List Int := l.map fun z => clampZ (z * pw s) 127
def putOf (s : Int) (l : List Int) : List Int × Bool := if keptB s l = true then (putL s l, true) else ([], false)
theorem putOf_len (s : Int) (l : List Int) : (putOf s l).1.length ≤ l.length := by unfold putOf; split <;> simp [putL]
theorem putL_snoc (s : Int) (l : List Int) (i : Nat) (h : i < l.length) : putL s (l.take (i + 1)) = putL s (l.take i) ++ [clampZ (l[i] * pw s) 127] := by
  rw [List.take_succ_eq_append_getElem h]; unfold putL; rw [List.map_append]; rfl
theorem kept_facts (s : Int) (l : List Int) (h : keptB s l = true) : 0 ≤ s ∧ s ≤ 4 ∧ 1 ≤ l.length ∧ l.length ≤ 8 ∧ ∀ z ∈ l, -15 ≤ z ∧ z ≤ 15 := by
  unfold keptB at h
  simp only [Bool.and_eq_true, List.all_eq_true, decide_eq_true_eq] at h
  exact ⟨h.1.1.1.1, h.1.1.1.2, h.1.1.2, h.1.2, h.2⟩
theorem keptB_no (s : Int) (l : List Int) (h : ¬ (0 ≤ s ∧ s ≤ 4 ∧ 1 ≤ l.length ∧ l.length ≤ 8)) : ¬ keptB s l = true := fun g => by
  obtain ⟨a, b, c, d, _⟩ := kept_facts s l g
  exact h ⟨a, b, c, d⟩
theorem keptB_all (s : Int) (l : List Int) (h : 0 ≤ s ∧ s ≤ 4 ∧ 1 ≤ l.length ∧ l.length ≤ 8) : (l.all fun z => decide (-15 ≤ z) && decide (z ≤ 15)) = keptB s l := by
  unfold keptB; simp [h.1, h.2.1, h.2.2.1, h.2.2.2]

def iPart (x : S111) : Nat := x.f1.length
def iParts : List S111 → Nat := szL iPart
def iPartss : List (List S111) → Nat := szL iParts
def iCell (x : S40) : Nat := iPartss x.f0 + iPartss x.f1
theorem i_part (x : S107) : iPart (gPart x) = mPart x := rfl
theorem i_parts (x : List S107) : iParts (gParts x) = mParts x := by unfold iParts mParts gParts szL; rw [sumS_map' gPart mPart iPart i_part, List.length_map]
theorem i_partss (x : List (List S107)) : iPartss (gPartss x) = mPartss x := by unfold iPartss mPartss gPartss szL; rw [sumS_map' gParts mParts iParts i_parts, List.length_map]
theorem i_cell (x : S24) : iCell (gCell x) = mCell x := by
  show iPartss (gPartss x.f0) + iPartss (gPartss x.f1) = mPartss x.f0 + mPartss x.f1; rw [i_partss, i_partss]
theorem eqPart_i (k : Nat) (x : S111) (h : iPart x ≤ 1048576) (hk : iPart x < k) : laws_eqPart.g k x x = some true := by
  unfold laws_eqPart.g
  rw [if_pos rfl, eq_tells x.f1 x.f1 (by unfold iPart at h; omega) k (by unfold iPart at hk; omega), Option.bind_some, decide_eq_true rfl]; rfl
theorem eqParts_i (k : Nat) (x : List S111) (h : iParts x ≤ 1048576) (hk : iParts x < k) : laws_eqPartS.g k x x = some true :=
  eq_listW o111 x (laws_eqPartS.l0 x x) (fun k y => laws_eqPart.g k y y) iPart (fun _ _ => rfl) (fun k y hy h' => eqPart_i k y ((in_list h).2 y hy) h') (in_list h).1 k hk
theorem eqPartss_i (k : Nat) (x : List (List S111)) (h : iPartss x ≤ 1048576) (hk : iPartss x < k) : laws_eqPartSS.g k x x = some true :=
  eq_listW [] x (laws_eqPartSS.l0 x x) (fun k y => laws_eqPartS.g k y y) iParts (fun _ _ => rfl) (fun k y hy h' => eqParts_i k y ((in_list h).2 y hy) h') (in_list h).1 k hk
theorem eqCell_i (k : Nat) (x : S40) (h : iCell x ≤ 1048576) (hk : iCell x < k) : laws_eqCell.g k x x = some true := by
  have g : iCell x = iPartss x.f0 + iPartss x.f1 := rfl
  unfold laws_eqCell.g
  rw [eqPartss_i k x.f0 (by omega) (by omega), Option.bind_some, if_pos rfl, eqPartss_i k x.f1 (by omega) (by omega), Option.bind_some, if_pos rfl]
theorem impl_clampG (k : Nat) (x m : Int) (h : 0 ≤ m) (h2 : m ≤ 1000000000) : impl_Clamp.g k x m = some (clampZ x m) := by
  unfold impl_Clamp.g clampZ
  rw [if_neg (by omega), w64 (by omega) (by omega)]
  congr 1
  repeat' split
  all_goals omega
theorem impl_putG (k : Nat) (x : S111) (hl : x.f1.length ≤ 1048576) (hk : x.f1.length + 50 < k) : impl_PutBack.g k x = some (putOf x.f0 x.f1) := by
  have key : impl_PutBack.g k x = some (if keptB x.f0 x.f1 = true then (putL x.f0 x.f1, true) else ([], false)) := by
    unfold impl_PutBack.g
    rw [show keptB x.f0 x.f1 = ((decide (0 ≤ x.f0) && decide (x.f0 ≤ 4)) && ((decide (1 ≤ (x.f1.length : Int)) && decide ((x.f1.length : Int) ≤ 8)) && (x.f1.all fun z => decide (-15 ≤ z) && decide (z ≤ 15)))) by
      unfold keptB
      rw [show decide (1 ≤ (x.f1.length : Int)) = decide (1 ≤ x.f1.length) from decide_eq_decide.mpr (by omega), show decide ((x.f1.length : Int) ≤ 8) = decide (x.f1.length ≤ 8) from decide_eq_decide.mpr (by omega)]
      simp only [Bool.and_assoc]]
    rw [impl_inB, Option.bind_some]
    cases h1 : (decide (0 ≤ x.f0) && decide (x.f0 ≤ 4)) with
    | false => rfl
    | true =>
      rw [if_pos rfl, impl_inB, Option.bind_some]
      cases h2 : (decide (1 ≤ (x.f1.length : Int)) && decide ((x.f1.length : Int) ≤ 8)) with
      | false => rfl
      | true =>
        rw [if_pos rfl, show impl_allIn.f x.f1 (-15) 15 = some (x.f1.all fun z => decide (-15 ≤ z) && decide (z ≤ 15)) from rfl, Option.bind_some]
        cases h3 : (x.f1.all fun z => decide (-15 ≤ z) && decide (z ≤ 15)) with
        | false => rfl
        | true =>
          simp only [Bool.and_eq_true, decide_eq_true_eq] at h1 h2
          rw [if_pos rfl, loopMap0 x.f1 (fun z => clampZ (z * pw x.f0) 127) (impl_PutBack.l0 x) (fun k i r => if 0 ≤ x.f0 then ((impl_Clamp.g k (shl .i64 (x.f1.getD i.toNat 0) x.f0) 127).bind r) else none) 0 (fun _ _ _ => rfl) (fun k _ i hi r => by
            have hz := List.all_eq_true.mp h3 _ (List.getElem_mem hi)
            simp only [Bool.and_eq_true, decide_eq_true_eq] at hz
            rw [if_pos h1.1, getD_int _ _ i hi, shl_mul _ _ hz.1 hz.2 h1.1 h1.2, impl_clampG _ _ 127 (by omega) (by omega), Option.bind_some]) (by omega) k (by omega), Option.bind_some]
          rfl
  rw [key]; rfl
def partB (n : Int) (x : S111) : Bool := (putOf x.f0 x.f1).2 && ((x.f1.length : Int) == n)
def partsB (m n : Int) (l : List S111) : Bool := decide ((l.length : Int) = m) && l.all (partB n)
def layersB (x : S47) (l : List (List S111)) : Bool := decide ((l.length : Int) = (x.f5.length : Int)) && l.all (partsB x.f1 (wrap64 (Int.tdiv x.f0 x.f1)))
def cellB (x : S47) (c : S40) : Bool := layersB x c.f0 && layersB x c.f1
theorem impl_part (k : Nat) (x : S111) (n : Int) (h : iPart x ≤ 1048576) (hk : 1100000 < k) : impl_PartOk.g k x n = some (partB n x) := by
  unfold iPart at h
  unfold impl_PartOk.g partB
  rw [impl_putG k _ (by show x.f1.length ≤ _; omega) (by show x.f1.length + 50 < k; omega), Option.bind_some]
  cases (putOf x.f0 x.f1).2 <;> rfl
theorem kept_same (s : Int) (l : List Int) : keptB s l = ((decide (0 ≤ s) && decide (s ≤ 4)) && ((decide (1 ≤ (l.length : Int)) && decide ((l.length : Int) ≤ 8)) && (l.all fun z => decide (-15 ≤ z) && decide (z ≤ 15)))) := by
  unfold keptB
  rw [show decide (1 ≤ (l.length : Int)) = decide (1 ≤ l.length) from decide_eq_decide.mpr (by omega), show decide ((l.length : Int) ≤ 8) = decide (l.length ≤ 8) from decide_eq_decide.mpr (by omega)]
  simp only [Bool.and_assoc]
theorem spec_putG (k : Nat) (x : S111) (hl : x.f1.length ≤ 1048576) (hk : x.f1.length + 100 < k) : spec_PutBack.g k x = some (putOf x.f0 x.f1) := by
  have key : spec_PutBack.g k x = some (if keptB x.f0 x.f1 = true then (putL x.f0 x.f1, true) else ([], false)) := by
    unfold spec_PutBack.g
    rw [kept_same, spec_in, Option.bind_some]
    cases h1 : (decide (0 ≤ x.f0) && decide (x.f0 ≤ 4)) with
    | false => rfl
    | true =>
      rw [if_pos rfl, spec_in, Option.bind_some]
      cases h2 : (decide (1 ≤ (x.f1.length : Int)) && decide ((x.f1.length : Int) ≤ 8)) with
      | false => rfl
      | true =>
        rw [if_pos rfl, all_tells _ _ x.f1 (by omega) k (by omega), Option.bind_some]
        cases h3 : (x.f1.all fun z => decide (-15 ≤ z) && decide (z ≤ 15)) with
        | false => rfl
        | true =>
          simp only [Bool.and_eq_true, decide_eq_true_eq] at h1 h2
          rw [if_pos rfl, loopMap0 x.f1 (fun z => clampZ (z * pw x.f0) 127) (spec_PutBack.l0 x) (fun k i r => ((spec_l03Pow.f k x.f0).bind fun t48 => ((spec_l03Clamp.f (wrap64 ((x.f1.getD i.toNat 0) * t48)) 127).bind r))) 50 (fun _ _ _ => rfl) (fun k hk i hi r => by
            have hz := List.all_eq_true.mp h3 _ (List.getElem_mem hi)
            simp only [Bool.and_eq_true, decide_eq_true_eq] at hz
            have hb := zp_bd _ _ hz.1 hz.2 h1.1 h1.2
            rw [getD_int _ _ i hi, spec_pow x.f0 h1.1 (by omega) k (by omega), Option.bind_some, w64 (i := x.f1[i] * pw x.f0) (by omega) (by omega), spec_clamp _ 127 (by omega) (by omega), Option.bind_some]) (by omega) k (by omega), Option.bind_some]
          rfl
  rw [key]; rfl
theorem spec_part (k : Nat) (x : S111) (n : Int) (h : iPart x ≤ 1048576) (hk : 1100000 < k) : spec_PartOk.g k x n = some (partB n x) := by
  unfold iPart at h
  unfold spec_PartOk.g partB
  rw [spec_putG k _ (by show x.f1.length ≤ _; omega) (by show x.f1.length + 100 < k; omega), Option.bind_some]
  cases (putOf x.f0 x.f1).2 <;> rfl
theorem impl_parts (k : Nat) (l : List S111) (m n : Int) (h : iParts l ≤ 1048576) (hk : 2200000 < k) : impl_partsOk.g k l m n = some (partsB m n l) := by
  have hl := (in_list h).2
  have hs : l.length ≤ 1048576 := by have := (show szL iPart l ≤ 1048576 from h); unfold szL at this; omega
  unfold impl_partsOk.g partsB
  by_cases c : (l.length : Int) = m
  · rw [if_pos c, decide_eq_true c]
    have e := loopAny0 l (partB n) o111 (slices_IndexFunc_impl_Part_impl_Part_98.l0 l n) (fun k x => impl_partsOk_1.g k x n) 1100000 (fun _ _ => rfl) (fun k hk x hx => by
      unfold impl_partsOk_1.g; rw [impl_part k ⟨x.f0, x.f1⟩ n (hl x hx) hk, Option.bind_some]) (by omega) k (by omega)
    rw [show slices_ContainsFunc_impl_Part_impl_Part_98.g k l n = _ from e, Option.bind_some, Bool.not_not]; rfl
  · rw [if_neg c, decide_eq_false c]; rfl
theorem impl_layersG (k : Nat) (l : List (List S111)) (x : S47) (h0 : x.f1 ≠ 0) (h : iPartss l ≤ 1048576) (hk : 3300000 < k) : impl_layersOk.g k l x = some (layersB x l) := by
  have hl := (in_list h).2
  have hs : l.length ≤ 1048576 := by have := (show szL iParts l ≤ 1048576 from h); unfold szL at this; omega
  unfold impl_layersOk.g layersB
  by_cases c : (l.length : Int) = (x.f5.length : Int)
  · rw [if_pos c, decide_eq_true c]
    have e := loopAny0 l (partsB x.f1 (wrap64 (Int.tdiv x.f0 x.f1))) [] (slices_IndexFunc_impl_Part_impl_Part_84.l0 l x) (fun k y => impl_layersOk_1.g k y x) 2200000 (fun _ _ => rfl) (fun k hk y hy => by
      unfold impl_layersOk_1.g; rw [if_pos h0, impl_parts k y _ _ (hl y hy) hk, Option.bind_some]) (by omega) k (by omega)
    rw [show slices_ContainsFunc_impl_Part_impl_Part_84.g k l x = _ from e, Option.bind_some, Bool.not_not]; rfl
  · rw [if_neg c, decide_eq_false c]; rfl
theorem spec_layersG (k : Nat) (l : List (List S111)) (x : S47) (h0 : x.f1 ≠ 0) (h : iPartss l ≤ 1048576) (hk : 3300000 < k) : spec_l14Parts.g k l x = some (layersB x l) := by
  have hl := (in_list h).2
  have hs : l.length ≤ 1048576 := by have := (show szL iParts l ≤ 1048576 from h); unfold szL at this; omega
  unfold spec_l14Parts.g layersB
  by_cases c : (l.length : Int) = (x.f5.length : Int)
  · rw [if_pos c, decide_eq_true c]
    rw [loopAll0 l (partsB x.f1 (wrap64 (Int.tdiv x.f0 x.f1))) false (spec_l14Parts.l0 l x) (fun k i r => if ((l.getD i.toNat []).length : Int) = x.f1 then ((spec_l14Parts.l1 l x i k 0).bind (fun o46 => match o46 with | .inl r_ => some (Sum.inl r_) | .inr i43 => r)) else (some (Sum.inl false))) 2200000 (fun _ _ => rfl) (fun k hk i hi r => by
      have hy := hl _ (List.getElem_mem hi)
      have hs2 : l[i].length ≤ 1048576 := by have := (show szL iPart l[i] ≤ 1048576 from hy); unfold szL at this; omega
      rw [getD_int _ _ i hi]
      unfold partsB
      by_cases c2 : (l[i].length : Int) = x.f1
      · rw [if_pos c2, decide_eq_true c2, Bool.true_and]
        rw [loopAll0 l[i] (partB (wrap64 (Int.tdiv x.f0 x.f1))) false (spec_l14Parts.l1 l x (i : Int)) (fun k j r => if x.f1 ≠ 0 then ((spec_PartOk.g k ((l.getD (i : Int).toNat []).getD j.toNat o111) (wrap64 (Int.tdiv x.f0 x.f1))).bind fun t68 => (if t68 = true then r else (some (Sum.inl false)))) else none) 1100000 (fun k j => by
            show spec_l14Parts.b1 l x (i : Int) (spec_l14Parts.l1 l x (i : Int) k) k j = _
            unfold spec_l14Parts.b1
            rw [getD_int _ _ i hi]) (fun k hk j hj r => by
            rw [if_pos h0, getD_int _ _ i hi, getD_int _ _ j hj, spec_part k _ _ ((in_list hy).2 _ (List.getElem_mem hj)) hk, Option.bind_some]) (by omega) k (by omega)]
        cases l[i].all (partB (wrap64 (Int.tdiv x.f0 x.f1))) <;> rfl
      · rw [if_neg c2, decide_eq_false c2]; rfl) (by omega) k (by omega)]
    cases l.all (partsB x.f1 (wrap64 (Int.tdiv x.f0 x.f1))) <;> rfl
  · rw [if_neg c, decide_eq_false c]; rfl
theorem heads_ne (x : S47) (h : modelB x = true) : x.f1 ≠ 0 := by
  unfold modelB at h
  simp only [Bool.and_eq_true, decide_eq_true_eq] at h
  omega
theorem impl_cellOk (k : Nat) (c : S40) (x : S47) (h0 : x.f1 ≠ 0) (h : iCell c ≤ 1048576) (hk : 3300000 < k) : impl_cellOk.g k c x = some (cellB x c) := by
  unfold iCell at h
  unfold impl_cellOk.g cellB
  rw [impl_layersG k c.f0 x h0 (by omega) hk, Option.bind_some, impl_layersG k c.f1 x h0 (by omega) hk, Option.bind_some]
  cases layersB x c.f0 <;> rfl
theorem spec_cellOk (k : Nat) (c : S40) (x : S47) (h0 : x.f1 ≠ 0) (h : iCell c ≤ 1048576) (hk : 3300000 < k) : spec_l14Cell.g k c x = some (cellB x c) := by
  unfold iCell at h
  unfold spec_l14Cell.g cellB
  rw [spec_layersG k c.f0 x h0 (by omega) hk, Option.bind_some, spec_layersG k c.f1 x h0 (by omega) hk, Option.bind_some]
  cases layersB x c.f0 <;> rfl
theorem impl_cell (k : Nat) (c : S40) (x : S47) (hx : iModel x ≤ 1048576) (h : iCell c ≤ 1048576) (hk : 7000000 < k) : impl_CellOk.g k c x = some (modelB x && cellB x c) := by
  unfold impl_CellOk.g
  rw [impl_model x hx k (by omega), Option.bind_some]
  cases hm : modelB x with
  | false => rfl
  | true => rw [if_pos rfl, impl_cellOk k c x (heads_ne x hm) h (by omega), Option.bind_some]; rfl
theorem spec_cell (k : Nat) (c : S40) (x : S47) (hx : iModel x ≤ 1048576) (h : iCell c ≤ 1048576) (hk : 7000000 < k) : spec_CellOk.g k c x = some (modelB x && cellB x c) := by
  unfold spec_CellOk.g
  rw [spec_model x hx k (by omega), Option.bind_some]
  cases hm : modelB x with
  | false => rfl
  | true => rw [if_pos rfl, spec_cellOk k c x (heads_ne x hm) h (by omega), Option.bind_some]; rfl

theorem FnExactCellOk : laws_FnExactCellOk.Pure := by
  intro c x okc okx
  obtain ⟨k, hk⟩ : ∃ k : Nat, k = mCell c + mModel x + 9000000 := ⟨_, rfl⟩
  refine ⟨k, ?_⟩
  unfold laws_FnExactCellOk.g
  refine sz_law (szCell_m k c 1048576 okc (by omega) (by omega) (by omega)) fun g0 => ?_
  refine sz_law (szModel_g k x _ okx (by omega) (by omega) (by omega)) fun g1 => ?_
  have g := toModel_g k x (by omega) (by omega)
  have i := i_model x
  have ic := i_cell c
  have e := eqModel_g k (gModel x) (by omega) (by omega)
  obtain ⟨t, e0, e1⟩ := toCell_m k c (by omega) (by omega)
  have e2 := eqCell_i k (gCell c) (by omega) (by omega)
  rw [e0, Option.bind_some, g, Option.bind_some, e1, spec_cell k _ _ (by omega) (by omega) (by omega), Option.bind_some, Option.bind_some, Option.bind_some, e1, impl_cell k _ _ (by omega) (by omega) (by omega), Option.bind_some, if_pos rfl, Option.bind_some, e1, e2, Option.bind_some, if_pos rfl, Option.bind_some, e, Option.bind_some, if_pos rfl]

end Go.Proofs.YtacbkcofcbglhaaGreat.Pure
