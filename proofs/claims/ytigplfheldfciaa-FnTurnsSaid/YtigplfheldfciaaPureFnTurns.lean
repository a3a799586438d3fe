/- Turns for drawn sizes are right; what they turn stays within a byte; heads turn by themselves; a place beyond them turns nothing. No conditions. -/
import Derived.Test.YtigplfheldfciaaPFnTurnsx5
namespace Go.Proofs.Ytigplfheldfciaa.Pure
open Go.RowKit Go.Proofs.Ytigplfheldfciaa.PFnTurns Go.Proofs.YtigplfheldfciaaW.PrintWords Go.Proofs.YtigplfheldfciaaW.PrintLast Go.Proofs.YtigplfheldfciaaW.PrintMore
set_option linter.unusedVariables false
set_option linter.unusedSimpArgs false

theorem w64 {i : Int} (h0 : -9223372036854775808 ≤ i) (h : i ≤ 9223372036854775807) : wrap64 i = i := by unfold wrap64; omega
theorem rd_get (l : List Int) (i : Nat) (h : i < l.length) : rd l (i : Int) = l[i] := by simp [rd, List.getD_eq_getElem?_getD, h]


theorem and_small (m : Nat) (hm : m < 9223372036854775808) (x : Int) : 0 ≤ Go.bits .and .i64 x (m : Int) ∧ Go.bits .and .i64 x (m : Int) ≤ (m : Int) := by
  simp only [Go.bits, BitVec.toNat_and]
  have h1 : (BitVec.ofInt IntKind.i64.bits x).toNat &&& (BitVec.ofInt IntKind.i64.bits (m : Int)).toNat ≤ m := by
    refine Nat.le_trans Nat.and_le_right ?_
    rw [BitVec.ofInt_natCast, BitVec.toNat_ofNat]
    exact Nat.mod_le _ _
  generalize (BitVec.ofInt IntKind.i64.bits x).toNat &&& (BitVec.ofInt IntKind.i64.bits (m : Int)).toNat = y at h1
  rw [IntKind.wrap_i64]
  omega
/-- A cursor's place. -/
def Cu (b : List Int) (i : Int) : Prop := 0 ≤ i ∧ i ≤ (b.length : Int) ∧ b.length ≤ 1048576
theorem byte_tells (b : List Int) (i h : Int) (hc : Cu b i) : ∃ v i' h', spec_l01Byte.f b i h = some (v, i', h') ∧ 0 ≤ v ∧ v ≤ 255 ∧ Cu b i' := by
  obtain ⟨h0, h1, h2⟩ := hc
  unfold spec_l01Byte.f
  by_cases hl : i < (b.length : Int)
  · rw [if_pos hl, if_pos h0, w64 (i := i + 1) (by omega) (by omega)]
    exact ⟨_, _, _, rfl, (and_small 255 (by decide) _).1, (and_small 255 (by decide) _).2, by omega, by omega, h2⟩
  · rw [if_neg hl]
    exact ⟨_, _, _, rfl, (and_small 255 (by decide) _).1, (and_small 255 (by decide) _).2, h0, h1, h2⟩
theorem below_tells (b : List Int) (i h : Int) (hc : Cu b i) (n : Int) (hn : 0 < n) (hn2 : n ≤ 4294967296) : ∃ v i' h', spec_l01Below.f b i h n = some (v, i', h') ∧ 0 ≤ v ∧ v < n ∧ Cu b i' := by
  unfold spec_l01Below.f
  rw [if_neg (by omega)]
  obtain ⟨v, i', h', e, v0, v1, hc'⟩ := byte_tells b i h hc
  by_cases h256 : n ≤ 256
  · rw [if_pos h256, e]
    simp only [Option.bind_some]
    rw [if_neg (by omega), Int.tmod_eq_emod_of_nonneg v0]
    exact ⟨_, _, _, rfl, Int.emod_nonneg _ (by omega), Int.emod_lt_of_pos _ hn, hc'⟩
  · obtain ⟨v2, i2, h2, e2, v20, v21, hc2⟩ := byte_tells b i' h' hc'
    obtain ⟨v3, i3, h3, e3, v30, v31, hc3⟩ := byte_tells b i2 h2 hc2
    obtain ⟨v4, i4, h4, e4, v40, v41, hc4⟩ := byte_tells b i3 h3 hc3
    rw [if_neg h256, e]
    simp only [Option.bind_some, e2, e3, e4]
    rw [if_neg (by omega), w64 (i := v * 16777216) (by omega) (by omega), w64 (i := v2 * 65536) (by omega) (by omega), w64 (i := v3 * 256) (by omega) (by omega), w64 (i := v * 16777216 + v2 * 65536) (by omega) (by omega), w64 (i := v * 16777216 + v2 * 65536 + v3 * 256) (by omega) (by omega), w64 (by omega) (by omega), Int.tmod_eq_emod_of_nonneg (by omega)]
    exact ⟨_, _, _, rfl, Int.emod_nonneg _ (by omega), Int.emod_lt_of_pos _ hn, hc4⟩
/-- a number of at most 0: nothing is drawn -/
theorem below_none (b : List Int) (i h : Int) (n : Int) (hn : n ≤ 0) : spec_l01Below.f b i h n = some (0, i, h) := by
  unfold spec_l01Below.f
  rw [if_pos hn]

theorem places_from (b : List Int) (d : Nat) : ∀ (j : Nat) (acc : List Int) (i h : Int), j + d = 12 → acc.length = j → Cu b i → (∀ z ∈ acc, 0 ≤ z ∧ z < 10000) →
    ∃ r, (∀ k', d < k' → spec_DrawPlaces.l0 k' acc (j : Int) b i h = some r) ∧ r.length = 12 ∧ (∀ z ∈ r, 0 ≤ z ∧ z < 10000) := by
  induction d with
  | zero =>
    intro j acc i h hj ha hc hz
    refine ⟨acc, fun k' hk' => ?_, by omega, hz⟩
    obtain ⟨k', rfl⟩ : ∃ m, k' = m + 1 := ⟨k' - 1, by omega⟩
    simp only [spec_DrawPlaces.l0]; rw [if_neg (by omega)]
  | succ d ih =>
    intro j acc i h hj ha hc hz
    obtain ⟨v, i1, hh1, e, v0, v1, hc1⟩ := below_tells b i h hc 10000 (by omega) (by omega)
    obtain ⟨r, hr, hl, hz'⟩ := ih (j + 1) (acc ++ [v]) i1 hh1 (by omega) (by simp; omega) hc1 (fun z hz1 => by
      rcases List.mem_append.1 hz1 with h | h
      · exact hz z h
      · rw [List.mem_singleton.1 h]; omega)
    refine ⟨r, fun k' hk' => ?_, hl, hz'⟩
    obtain ⟨k', rfl⟩ : ∃ m, k' = m + 1 := ⟨k' - 1, by omega⟩
    rw [spec_DrawPlaces.l0, if_pos (by omega), e, Option.bind_some, if_pos (by omega), w64 (by omega) (by omega), show ((j : Int) + 1) = ((j + 1 : Nat) : Int) by omega]
    exact hr k' (by omega)
theorem places_tells (c : List Int) (hl : c.length ≤ 1048576) : ∃ r, (∀ k, 12 < k → spec_DrawPlaces.f k c = some r) ∧ r.length = 12 ∧ (∀ z ∈ r, 0 ≤ z ∧ z < 10000) := by
  have hc0 : Cu c 0 := ⟨by omega, by omega, by omega⟩
  obtain ⟨v, i1, h1, e, _, _, hc1⟩ := byte_tells c 0 (spec_l01New.hash c) hc0
  obtain ⟨r, hr, hl', hz⟩ := places_from c 12 0 [] i1 h1 (by omega) rfl hc1 (fun z hz => by cases hz)
  refine ⟨r, fun k hk => ?_, hl', hz⟩
  unfold spec_DrawPlaces.f spec_l01New.f
  rw [Option.bind_some, e, Option.bind_some]
  exact hr k hk

def cosAt (p k : Nat) : Int := 128 - 2 * (((p * (k + 1)) % 64 : Nat) : Int)
def sinAt (p k : Nat) : Int := (((8 * p + 16 * k) % 128 : Nat) : Int)
def rowOf (f : Nat → Nat → Int) (n p : Nat) : List Int := (List.range n).map (f p)
def rowsOf (f : Nat → Nat → Int) (n c : Nat) : List (List Int) := (List.range c).map (rowOf f n)
theorem range_succ_map {α : Type} (f : Nat → α) (n : Nat) : (List.range (n + 1)).map f = (List.range n).map f ++ [f n] := by rw [List.range_succ, List.map_append]; rfl
theorem cos_at (p k : Nat) (hp : p ≤ 24) (hk : k ≤ 4) : wrap64 (128 - (wrap64 (2 * (Int.tmod (wrap64 ((p : Int) * (wrap64 ((k : Int) + 1)))) 64)))) = cosAt p k := by
  have h1 : p * (k + 1) ≤ 24 * 5 := Nat.mul_le_mul hp (by omega)
  rw [w64 (i := (k : Int) + 1) (by omega) (by omega), show (k : Int) + 1 = ((k + 1 : Nat) : Int) by omega, show (p : Int) * ((k + 1 : Nat) : Int) = ((p * (k + 1) : Nat) : Int) by rw [Int.natCast_mul], w64 (i := ((p * (k + 1) : Nat) : Int)) (by omega) (by omega)]
  unfold cosAt
  generalize p * (k + 1) = q
  rw [Int.tmod_eq_emod_of_nonneg (by omega), w64 (i := 2 * ((q : Int) % 64)) (by omega) (by omega), w64 (by omega) (by omega)]
  omega
theorem sin_at (p k : Nat) (hp : p ≤ 24) (hk : k ≤ 4) : Int.tmod (wrap64 ((wrap64 (8 * (p : Int))) + (wrap64 (16 * (k : Int))))) 128 = sinAt p k := by
  rw [w64 (i := 8 * (p : Int)) (by omega) (by omega), w64 (i := 16 * (k : Int)) (by omega) (by omega), w64 (by omega) (by omega), Int.tmod_eq_emod_of_nonneg (by omega)]
  unfold sinAt; omega
theorem cos_bd (p k : Nat) : -128 ≤ cosAt p k ∧ cosAt p k ≤ 128 := by unfold cosAt; omega
theorem sin_bd (p k : Nat) : -128 ≤ sinAt p k ∧ sinAt p k ≤ 128 := by unfold sinAt; omega
theorem turns_row (n c p : Nat) (hn : n ≤ 4) (hp : p ≤ 24) (P Q : List (List Int)) (hP : P.length ≤ 24) (hQ : Q.length ≤ 24) : ∀ d i k, i + d = n → d < k →
    impl_TurnsFor.l1 k (n : Int) (p : Int) (rowOf cosAt i p) (rowOf sinAt i p) (c : Int) (p : Int) (n : Int) (i : Int) P Q = impl_TurnsFor.l0 (k - d - 1) (n : Int) (c : Int) ((p + 1 : Nat) : Int) (P ++ [rowOf cosAt n p]) (Q ++ [rowOf sinAt n p])
  | 0, i, k, h1, h2 => by
    obtain ⟨k, rfl⟩ : ∃ m, k = m + 1 := ⟨k - 1, by omega⟩
    obtain rfl : i = n := by omega
    rw [impl_TurnsFor.l1, if_neg (by omega), if_pos (by omega), if_pos (by omega), w64 (i := (p : Int) + 1) (by omega) (by omega), show (p : Int) + 1 = ((p + 1 : Nat) : Int) by omega]
    rfl
  | d + 1, i, k, h1, h2 => by
    obtain ⟨k, rfl⟩ : ∃ m, k = m + 1 := ⟨k - 1, by omega⟩
    rw [impl_TurnsFor.l1, if_pos (by omega), if_pos (by simp [rowOf]; omega), if_pos (by simp [rowOf]; omega), cos_at p i hp (by omega), sin_at p i hp (by omega), w64 (i := (i : Int) + 1) (by omega) (by omega), show (i : Int) + 1 = ((i + 1 : Nat) : Int) by omega,
      show rowOf cosAt i p ++ [cosAt p i] = rowOf cosAt (i + 1) p from (range_succ_map _ _).symm, show rowOf sinAt i p ++ [sinAt p i] = rowOf sinAt (i + 1) p from (range_succ_map _ _).symm, turns_row n c p hn hp P Q hP hQ d (i + 1) k (by omega) (by omega)]
    rw [show k + 1 - (d + 1) - 1 = k - d - 1 by omega]
theorem turns_rows (n c : Nat) (hn : n ≤ 4) (hc : c ≤ 24) : ∀ d p k, p + d = c → d * (n + 2) < k →
    impl_TurnsFor.l0 k (n : Int) (c : Int) (p : Int) (rowsOf cosAt n p) (rowsOf sinAt n p) = some (rowsOf cosAt n c, rowsOf sinAt n c, true)
  | 0, p, k, h1, h2 => by
    obtain ⟨k, rfl⟩ : ∃ m, k = m + 1 := ⟨k - 1, by omega⟩
    obtain rfl : p = c := by omega
    rw [impl_TurnsFor.l0, if_neg (by omega)]
  | d + 1, p, k, h1, h2 => by
    have h3 : (d + 1) * (n + 2) = d * (n + 2) + (n + 2) := Nat.succ_mul _ _
    obtain ⟨k, rfl⟩ : ∃ m, k = m + 1 := ⟨k - 1, by omega⟩
    have e := turns_row n c p hn (by omega) (rowsOf cosAt n p) (rowsOf sinAt n p) (by simp [rowsOf]; omega) (by simp [rowsOf]; omega) n 0 k (by omega) (by omega)
    rw [impl_TurnsFor.l0, if_pos (by omega)]
    have e0 : impl_TurnsFor.l1 k (n : Int) (p : Int) [] [] (c : Int) (p : Int) (n : Int) 0 (rowsOf cosAt n p) (rowsOf sinAt n p) = _ := e
    rw [e0, show rowsOf cosAt n p ++ [rowOf cosAt n p] = rowsOf cosAt n (p + 1) from (range_succ_map _ _).symm, show rowsOf sinAt n p ++ [rowOf sinAt n p] = rowsOf sinAt n (p + 1) from (range_succ_map _ _).symm]
    exact turns_rows n c hn hc d (p + 1) (k - n - 1) (by omega) (by omega)
theorem impl_turnsFor (n c : Nat) (h1 : 1 ≤ n) (hn : n ≤ 4) (h4 : 4 ≤ c) (hc : c ≤ 24) (k : Nat) (hk : 200 < k) : impl_TurnsFor.f k (c : Int) (n : Int) = some (rowsOf cosAt n c, rowsOf sinAt n c, true) := by
  obtain ⟨j, rfl⟩ : ∃ m, k = m + 1 := ⟨k - 1, by omega⟩
  unfold impl_TurnsFor.f impl_in.f
  rw [if_pos (by omega), Option.bind_some, if_pos (by simp; omega), if_pos (by omega), Option.bind_some, decide_eq_true (by omega)]
  simp only [impl_TurnsFor.j0]
  rw [if_neg (by simp)]
  have hm : c * (n + 2) ≤ 24 * 6 := Nat.mul_le_mul hc (by omega)
  exact turns_rows n c hn hc c 0 j (by omega) (by omega)
theorem lists_ok (f : Nat → Nat → Int) (hf : ∀ p k, -128 ≤ f p k ∧ f p k ≤ 128) (n c : Nat) : impl_turnLists.f (rowsOf f n c) (c : Int) (n : Int) = some true := by
  unfold impl_turnLists.f
  congr 1
  rw [Bool.and_eq_true]
  refine ⟨decide_eq_true (by simp [rowsOf]), ?_⟩
  rw [List.all_eq_true]
  intro l hl
  obtain ⟨p, _, rfl⟩ := List.mem_map.mp hl
  rw [Bool.and_eq_true]
  refine ⟨decide_eq_true (by simp [rowOf]), ?_⟩
  rw [List.all_eq_true]
  intro x hx
  obtain ⟨q, _, rfl⟩ := List.mem_map.mp hx
  have := hf p q
  rw [Bool.and_eq_true, decide_eq_true_eq, decide_eq_true_eq]; exact this
theorem impl_turnsOk (n c : Nat) (h1 : 1 ≤ n) (hn : n ≤ 4) (h4 : 4 ≤ c) (hc : c ≤ 24) : impl_TurnsOk.f (rowsOf cosAt n c) (rowsOf sinAt n c) (c : Int) (n : Int) = some true := by
  unfold impl_TurnsOk.f impl_in.f
  rw [if_pos (by omega), Option.bind_some, if_pos (by simp; omega), if_pos (by omega), Option.bind_some, if_pos (by simp; omega), lists_ok cosAt cos_bd, Option.bind_some, if_pos rfl, lists_ok sinAt sin_bd, Option.bind_some]
theorem rows_get (f : Nat → Nat → Int) (n c p : Nat) (h : p < c) : (rowsOf f n c).getD p [] = rowOf f n p := by
  simp [rowsOf, List.getD_eq_getElem?_getD, h]

def clampZ (x m : Int) : Int := if x > m then m else if x < -m then -m else x
theorem impl_clamp (x m : Int) (h : 0 ≤ m) (h2 : m ≤ 1000000000) : impl_Clamp.f x m = some (clampZ x m) := by
  unfold impl_Clamp.f clampZ mx mn
  rw [if_neg (by omega), w64 (by omega) (by omega)]
  congr 1
  repeat' split
  all_goals omega

def floorZ (a b : Int) : Int := a.tdiv b + (if a.tmod b < 0 then -1 else 0)
theorem tdiv_bd (a b : Int) (hb : 0 < b) (m : Int) (h0 : -m ≤ a) (h1 : a ≤ m) : -m ≤ a.tdiv b ∧ a.tdiv b ≤ m := by
  rcases Int.le_total 0 a with h | h
  · have e := Int.tdiv_eq_ediv_of_nonneg h (b := b)
    have e1 := Int.ediv_nonneg h (Int.le_of_lt hb)
    have e2 : a / b ≤ a := Int.ediv_le_self b h
    omega
  · have h' : 0 ≤ -a := by omega
    have e := Int.tdiv_eq_ediv_of_nonneg h' (b := b)
    have e1 := Int.ediv_nonneg h' (Int.le_of_lt hb)
    have e2 : -a / b ≤ -a := Int.ediv_le_self b h'
    rw [Int.neg_tdiv] at e
    omega

theorem impl_floor (a b : Int) (hb : 0 < b) (h0 : -1000000000000 ≤ a) (h1 : a ≤ 1000000000000) (k : Nat) (hk : 1 < k) : impl_FloorDiv.f k a b = some (floorZ a b) := by
  obtain ⟨k, rfl⟩ : ∃ m, k = m + 1 := ⟨k - 1, by omega⟩
  have hd := tdiv_bd a b hb 1000000000000 h0 h1
  unfold impl_FloorDiv.f impl_in.f
  rw [if_neg (by omega), if_pos (by omega), decide_eq_true h1, Option.bind_some, impl_FloorDiv.j0, if_neg (by simp), if_neg (by omega), w64 (i := a.tdiv b) (by omega) (by omega), w64 (i := a.tdiv b - 1) (by omega) (by omega)]
  unfold floorZ
  by_cases h : a.tmod b < 0
  · rw [if_pos h, if_pos h]; rfl
  · rw [if_neg h, if_neg h, Int.add_zero]

/-- a pair, turned. -/
def t1 (a b c s : Int) : Int := clampZ (floorZ (a * c - b * s) 128) 127
def t2 (a b c s : Int) : Int := clampZ (floorZ (a * s + b * c) 128) 127
def okTurn (a b c s : Int) : Prop := (-127 ≤ a ∧ a ≤ 127) ∧ (-127 ≤ b ∧ b ≤ 127) ∧ (-128 ≤ c ∧ c ≤ 128) ∧ (-128 ≤ s ∧ s ≤ 128)
theorem mul_bd2 (a b : Int) (m n : Int) (h1 : -m ≤ a) (h2 : a ≤ m) (h3 : -n ≤ b) (h4 : b ≤ n) (hm : 0 ≤ m) (hn : 0 ≤ n) : -(m * n) ≤ a * b ∧ a * b ≤ m * n := by
  have h := Int.natAbs_mul a b
  have e1 : a.natAbs ≤ m.toNat := by omega
  have e2 : b.natAbs ≤ n.toNat := by omega
  have e3 : a.natAbs * b.natAbs ≤ m.toNat * n.toNat := Nat.mul_le_mul e1 e2
  have e4 : ((m.toNat * n.toNat : Nat) : Int) = m * n := by rw [Int.natCast_mul, Int.toNat_of_nonneg hm, Int.toNat_of_nonneg hn]
  omega
theorem turnable_yes (a b c s : Int) (h : okTurn a b c s) : impl_turnable.f a b c s = some true := by
  obtain ⟨⟨a1, a2⟩, ⟨b1, b2⟩, ⟨c1, c2⟩, s1, s2⟩ := h
  unfold impl_turnable.f impl_in.f
  rw [if_pos (by omega), Option.bind_some, if_pos (by simpa using a2), if_pos (by omega), Option.bind_some, if_pos (by simpa using b2), if_pos (by omega), Option.bind_some, if_pos (by simpa using c2), if_pos (by omega), Option.bind_some, decide_eq_true (by omega)]
theorem impl_turn (a b c s : Int) (h : okTurn a b c s) (k : Nat) (hk : 1 < k) : impl_Turn.f k a b c s = some (t1 a b c s, t2 a b c s) := by
  have h' := h
  obtain ⟨⟨a1, a2⟩, ⟨b1, b2⟩, ⟨c1, c2⟩, s1, s2⟩ := h
  have m1 := mul_bd2 a c 127 128 a1 a2 c1 c2 (by omega) (by omega)
  have m2 := mul_bd2 b s 127 128 b1 b2 s1 s2 (by omega) (by omega)
  have m3 := mul_bd2 a s 127 128 a1 a2 s1 s2 (by omega) (by omega)
  have m4 := mul_bd2 b c 127 128 b1 b2 c1 c2 (by omega) (by omega)
  unfold impl_Turn.f t1 t2
  rw [turnable_yes a b c s h', Option.bind_some, if_pos rfl, w64 (i := a * c) (by omega) (by omega), w64 (i := b * s) (by omega) (by omega), w64 (i := a * s) (by omega) (by omega), w64 (i := b * c) (by omega) (by omega), w64 (i := a * c - b * s) (by omega) (by omega), w64 (i := a * s + b * c) (by omega) (by omega),
    impl_floor (a * c - b * s) 128 (by omega) (by omega) (by omega) k hk, Option.bind_some, impl_clamp _ 127 (by omega) (by omega), Option.bind_some, impl_floor (a * s + b * c) 128 (by omega) (by omega) (by omega) k hk, Option.bind_some, impl_clamp _ 127 (by omega) (by omega), Option.bind_some]
theorem clampZ_bd (x : Int) : -127 ≤ clampZ x 127 ∧ clampZ x 127 ≤ 127 := by
  unfold clampZ
  repeat' split
  all_goals omega
/-- pairs, turned one behind the other; the place in the head tells the turn. -/
def turned (h : Nat) (cs sn : List Int) : Nat → List Int → List Int
  | i, a :: b :: l => t1 a b (rd cs ((i % h / 2 : Nat) : Int)) (rd sn ((i % h / 2 : Nat) : Int)) :: t2 a b (rd cs ((i % h / 2 : Nat) : Int)) (rd sn ((i % h / 2 : Nat) : Int)) :: turned h cs sn (i + 2) l
  | _, _ => []
theorem turned_bd (h : Nat) (cs sn : List Int) : ∀ (m : Nat) (l : List Int) (i : Nat), l.length = 2 * m → (∀ z ∈ turned h cs sn i l, -127 ≤ z ∧ z ≤ 127) ∧ (turned h cs sn i l).length = l.length
  | 0, l, i, hl => by
    cases l with
    | nil => exact ⟨fun z hz => (by cases hz), rfl⟩
    | cons a l => simp at hl
  | m + 1, l, i, hl => by
    match l, hl with
    | a :: b :: l, hl =>
      obtain ⟨h1, h2⟩ := turned_bd h cs sn m l (i + 2) (by simp at hl; omega)
      refine ⟨fun z hz => ?_, by simp [turned, h2]⟩
      simp only [turned, List.mem_cons] at hz
      rcases hz with rfl | rfl | hz
      · exact clampZ_bd _
      · exact clampZ_bd _
      · exact h1 z hz
theorem turned_app (h : Nat) (cs sn : List Int) : ∀ (m : Nat) (l r : List Int) (i : Nat), l.length = 2 * m → turned h cs sn i (l ++ r) = turned h cs sn i l ++ turned h cs sn (i + 2 * m) r
  | 0, l, r, i, hl => by
    cases l with
    | nil => rfl
    | cons a l => simp at hl
  | m + 1, l, r, i, hl => by
    match l, hl with
    | a :: b :: l, hl =>
      have := turned_app h cs sn m l r (i + 2) (by simp at hl; omega)
      simp only [List.cons_append, turned, this]
      rw [show i + 2 + 2 * m = i + 2 * (m + 1) by omega]
theorem turned_again (h : Nat) (cs sn : List Int) : ∀ (m : Nat) (l : List Int) (i : Nat), l.length = 2 * m → turned h cs sn (i + h) l = turned h cs sn i l
  | 0, l, i, hl => by
    cases l with
    | nil => rfl
    | cons a l => simp at hl
  | m + 1, l, i, hl => by
    match l, hl with
    | a :: b :: l, hl =>
      have := turned_again h cs sn m l (i + 2) (by simp at hl; omega)
      simp only [turned]
      rw [Nat.add_mod_right, show i + h + 2 = i + 2 + h by omega, this]
theorem half_of (g i : Nat) (hg : 1 ≤ g) : i % (2 * g) / 2 < g := by
  have h : i % (2 * g) < 2 * g := Nat.mod_lt _ (by omega)
  generalize i % (2 * g) = r at h ⊢
  omega
theorem half_w (g i : Nat) (hg : 1 ≤ g) (hg4 : g ≤ 4) : wrap64 (Int.tdiv (Int.tmod (i : Int) ((2 * g : Nat) : Int)) 2) = ((i % (2 * g) / 2 : Nat) : Int) := by
  have h := half_of g i hg
  rw [Int.tmod_eq_emod_of_nonneg (Int.natCast_nonneg _), ← Int.natCast_emod]
  generalize i % (2 * g) = r at h ⊢
  rw [Int.tdiv_eq_ediv_of_nonneg (by omega), w64 (by omega) (by omega)]; omega
theorem w_up1 (i : Nat) (h : i ≤ 100) : wrap64 ((i : Int) + 1) = ((i + 1 : Nat) : Int) := by rw [w64 (by omega) (by omega)]; omega
theorem w_up2 (i : Nat) (h : i ≤ 100) : wrap64 ((i : Int) + 2) = ((i + 2 : Nat) : Int) := by rw [w64 (by omega) (by omega)]; omega
set_option maxHeartbeats 4000000 in
theorem all_step (g : Nat) (hg : 1 ≤ g) (hg4 : g ≤ 4) (cs sn : List Int) (hcl : cs.length = g) (hsl : sn.length = g) (hcb : ∀ z ∈ cs, -128 ≤ z ∧ z ≤ 128) (hsb : ∀ z ∈ sn, -128 ≤ z ∧ z ≤ 128)
    (x : List Int) (hx : x.length ≤ 8) (hxb : ∀ z ∈ x, -127 ≤ z ∧ z ≤ 127) (k i : Nat) (acc : List Int) (hi1 : i + 1 < x.length) (ha : acc.length ≤ 8) (hk : 1 < k) :
    impl_TurnAll.l0 (k + 1) ((2 * g : Nat) : Int) x cs sn acc (i : Int) = impl_TurnAll.l0 k ((2 * g : Nat) : Int) x cs sn (acc ++ [t1 (rd x (i : Int)) (rd x ((i + 1 : Nat) : Int)) (rd cs ((i % (2 * g) / 2 : Nat) : Int)) (rd sn ((i % (2 * g) / 2 : Nat) : Int)), t2 (rd x (i : Int)) (rd x ((i + 1 : Nat) : Int)) (rd cs ((i % (2 * g) / 2 : Nat) : Int)) (rd sn ((i % (2 * g) / 2 : Nat) : Int))]) ((i + 2 : Nat) : Int) := by
  have hi : i < x.length := by omega
  have hq := half_of g i hg
  have c1 : (i : Int) < (x.length : Int) := by omega
  have c2 : ¬ ((2 * g : Nat) : Int) = 0 := by omega
  have c3 : (0 : Int) ≤ (i : Int) := by omega
  have c4 : (0 : Int) ≤ ((i + 1 : Nat) : Int) := by omega
  have c5 : ((i + 1 : Nat) : Int) < (x.length : Int) := by omega
  have hi100 : i ≤ 100 := by omega
  have c9 : ∀ y1 y2 : Int, acc.length + [y1, y2].length < 17592186044416 := fun y1 y2 => by
    have h : [y1, y2].length = 2 := rfl
    omega
  have c6 : (0 : Int) ≤ ((i % (2 * g) / 2 : Nat) : Int) := Int.natCast_nonneg _
  have c7 : ((i % (2 * g) / 2 : Nat) : Int) < (cs.length : Int) := by rw [hcl]; exact Int.ofNat_lt.mpr hq
  have c8 : ((i % (2 * g) / 2 : Nat) : Int) < (sn.length : Int) := by rw [hsl]; exact Int.ofNat_lt.mpr hq
  have q1 : i % (2 * g) / 2 < cs.length := by rw [hcl]; exact hq
  have q2 : i % (2 * g) / 2 < sn.length := by rw [hsl]; exact hq
  have ok : okTurn (rd x (i : Int)) (rd x ((i + 1 : Nat) : Int)) (rd cs ((i % (2 * g) / 2 : Nat) : Int)) (rd sn ((i % (2 * g) / 2 : Nat) : Int)) := by
    rw [rd_get x i hi, rd_get x (i + 1) hi1, rd_get cs _ q1, rd_get sn _ q2]
    exact ⟨hxb _ (List.getElem_mem hi), hxb _ (List.getElem_mem hi1), hcb _ (List.getElem_mem _), hsb _ (List.getElem_mem _)⟩
  rw [impl_TurnAll.l0, half_w g i hg hg4, w_up1 i hi100, w_up2 i hi100, if_pos c1, if_neg c2, if_pos c3, if_pos c4, if_pos c5, if_pos c6, if_pos c7, if_pos c8, turnable_yes _ _ _ _ ok, Option.bind_some, if_pos rfl, impl_turn _ _ _ _ ok k hk, Option.bind_some, Option.bind_some, if_pos (c9 _ _)]
set_option maxHeartbeats 4000000 in
theorem all_from2 (g : Nat) (hg : 1 ≤ g) (hg4 : g ≤ 4) (cs sn : List Int) (hcl : cs.length = g) (hsl : sn.length = g) (hcb : ∀ z ∈ cs, -128 ≤ z ∧ z ≤ 128) (hsb : ∀ z ∈ sn, -128 ≤ z ∧ z ≤ 128)
    (x : List Int) (hx : x.length ≤ 8) (hxb : ∀ z ∈ x, -127 ≤ z ∧ z ≤ 127) : ∀ (m k i : Nat) (acc : List Int), i + 2 * m = x.length → acc.length = i → m + 2 < k →
    impl_TurnAll.l0 k ((2 * g : Nat) : Int) x cs sn acc (i : Int) = some (acc ++ turned (2 * g) cs sn i (x.drop i), true)
  | 0, k, i, acc, h1, h2, h3 => by
    obtain ⟨k, rfl⟩ : ∃ m, k = m + 1 := ⟨k - 1, by omega⟩
    rw [impl_TurnAll.l0, if_neg (by omega), List.drop_of_length_le (by omega)]
    simp [turned]
  | m + 1, k, i, acc, h1, h2, h3 => by
    obtain ⟨k, rfl⟩ : ∃ m, k = m + 1 := ⟨k - 1, by omega⟩
    have hi : i < x.length := by omega
    have hi1 : i + 1 < x.length := by omega
    have ed : x.drop i = rd x (i : Int) :: rd x ((i + 1 : Nat) : Int) :: x.drop (i + 2) := by
      rw [List.drop_eq_getElem_cons hi, List.drop_eq_getElem_cons hi1, rd_get x i hi, rd_get x (i + 1) hi1]
    rw [all_step g hg hg4 cs sn hcl hsl hcb hsb x hx hxb k i acc hi1 (by omega) (by omega), all_from2 g hg hg4 cs sn hcl hsl hcb hsb x hx hxb m k (i + 2) _ (by omega) (by simp; omega) (by omega), ed]
    simp [turned]

theorem same_from (a b : List Int) (hl : a.length ≤ 9223372036854775806) (hab : a.length = b.length) (d : Nat) : ∀ (k i : Nat), i ≤ a.length → a.length - i = d → d < k →
    laws_sameInts.l0 k a b (i : Int) = some (decide (a.drop i = b.drop i)) := by
  induction d with
  | zero =>
    intro k i hi' hd hk
    obtain ⟨k, rfl⟩ : ∃ m, k = m + 1 := ⟨k - 1, by omega⟩
    rw [List.drop_of_length_le (by omega), List.drop_of_length_le (by omega)]
    simp only [laws_sameInts.l0]; rw [if_neg (by omega)]; simp
  | succ d ih =>
    intro k i hi' hd hk
    obtain ⟨k, rfl⟩ : ∃ m, k = m + 1 := ⟨k - 1, by omega⟩
    have hlt : i < a.length := by omega
    have hltb : i < b.length := by omega
    simp only [laws_sameInts.l0]
    rw [if_pos (by omega), if_pos (by omega), if_pos (by omega), rd_get a i hlt, rd_get b i hltb, List.drop_eq_getElem_cons hlt, List.drop_eq_getElem_cons hltb]
    by_cases h : a[i] = b[i]
    · rw [if_pos h, w64 (by omega) (by omega), show ((i : Int) + 1) = ((i + 1 : Nat) : Int) by omega, ih k (i + 1) (by omega) (by omega) (by omega)]
      congr 1
      rw [decide_eq_decide]
      simp only [h, List.cons.injEq, true_and]
    · rw [if_neg h, decide_eq_false (fun e => h (List.cons.inj e).1)]
/-- laws.sameInts: equal lists. -/
theorem same_tells (a b : List Int) (hl : a.length ≤ 9223372036854775806) (k : Nat) (hk : a.length < k) : laws_sameInts.f k a b = some (decide (a = b)) := by
  unfold laws_sameInts.f
  by_cases h : a.length = b.length
  · rw [if_pos (by omega)]
    have := same_from a b hl h a.length k 0 (by omega) (by omega) hk
    simpa using this
  · rw [if_neg (by omega), decide_eq_false]
    intro e; rw [e] at h; exact h rfl

theorem byteish_from (l : List Int) (hb : ∀ z ∈ l, -127 ≤ z ∧ z ≤ 127) (hl : l.length ≤ 1000) : ∀ d k i, i + d = l.length → d < k → laws_byteish.l0 k l (i : Int) = some true
  | 0, k, i, h1, h2 => by
    obtain ⟨k, rfl⟩ : ∃ m, k = m + 1 := ⟨k - 1, by omega⟩
    rw [laws_byteish.l0, if_neg (by omega)]
  | d + 1, k, i, h1, h2 => by
    obtain ⟨k, rfl⟩ : ∃ m, k = m + 1 := ⟨k - 1, by omega⟩
    have hi : i < l.length := by omega
    have := hb _ (List.getElem_mem hi)
    rw [laws_byteish.l0, if_pos (by omega), if_pos (by omega), rd_get l i hi, if_neg (by omega), if_neg (by omega), w64 (by omega) (by omega), show (i : Int) + 1 = ((i + 1 : Nat) : Int) by omega]
    exact byteish_from l hb hl d k (i + 1) (by omega) (by omega)
theorem byteish_yes (l : List Int) (hb : ∀ z ∈ l, -127 ≤ z ∧ z ≤ 127) (hl : l.length ≤ 1000) (k : Nat) (hk : l.length < k) : laws_byteish.f k l = some true :=
  byteish_from l hb hl l.length k 0 (by omega) hk
theorem row_bd (f : Nat → Nat → Int) (hf : ∀ p k, -128 ≤ f p k ∧ f p k ≤ 128) (n p : Nat) : ∀ z ∈ rowOf f n p, -128 ≤ z ∧ z ≤ 128 := by
  intro z hz
  obtain ⟨q, _, rfl⟩ := List.mem_map.mp hz
  exact hf p q
theorem rows_len (f : Nat → Nat → Int) (n c : Nat) : (rowsOf f n c).length = c := by simp [rowsOf]
theorem row_len (f : Nat → Nat → Int) (n p : Nat) : (rowOf f n p).length = n := by simp [rowOf]
theorem w_half (n : Nat) (h : n ≤ 2) : wrap64 (Int.tdiv ((2 * n : Nat) : Int) 2) = (n : Int) := by rw [Int.tdiv_eq_ediv_of_nonneg (by omega), w64 (by omega) (by omega)]; omega
theorem w_less (c : Nat) (h : c ≤ 24) : wrap64 ((mn (c : Int) (c : Int)) - 1) = (c : Int) - 1 := by unfold mn; rw [if_neg (by omega), w64 (by omega) (by omega)]
theorem even_of (n : Nat) : (Int.tmod ((2 * n : Nat) : Int) 2) = 0 := by rw [Int.tmod_eq_emod_of_nonneg (by omega)]; omega
theorem mod_of (l n : Nat) (hm : l % (2 * n) = 0) : ((l : Int) % ((2 * n : Nat) : Int)) = 0 := by rw [← Int.natCast_emod, hm]; rfl
set_option maxHeartbeats 4000000 in
theorem impl_all (n c p : Nat) (h1 : n = 1 ∨ n = 2) (hp : p < c) (hc : c ≤ 24) (x : List Int) (m : Nat) (hx : x.length = 2 * m) (hm : x.length % (2 * n) = 0) (h8 : x.length ≤ 8) (hb : ∀ z ∈ x, -127 ≤ z ∧ z ≤ 127) (k : Nat) (hk : 20 < k) :
    impl_TurnAll.f k (rowsOf cosAt n c) (rowsOf sinAt n c) (p : Int) ((2 * n : Nat) : Int) x = some (turned (2 * n) (rowOf cosAt n p) (rowOf sinAt n p) 0 x, true) := by
  obtain ⟨j, rfl⟩ : ∃ m, k = m + 1 + 1 := ⟨k - 2, by omega⟩
  have ex := mod_of x.length n hm
  clear hm
  have b1 : ((2 * n : Nat) : Int) ≥ 2 := by omega
  have b2 : ((2 * n : Nat) : Int) ≤ 8 := by omega
  have b3 : ¬ ((2 * n : Nat) : Int) = 0 := by omega
  have b4 : ¬ (x.length : Int) > 8 := by omega
  have b5 : (p : Int) ≥ 0 := by omega
  have b6 : (p : Int) ≤ (c : Int) - 1 := by omega
  have b7 : (0 : Int) ≤ (p : Int) := by omega
  have b8 : (p : Int) < (c : Int) := by omega
  have n2 : n ≤ 2 := by omega
  have n1 : 1 ≤ n := by omega
  have hj : m + 2 < j := by omega
  have h0m : 0 + 2 * m = x.length := by omega
  have gc : rd_L1 (rowsOf cosAt n c) (p : Int) = rowOf cosAt n p := by unfold rd_L1; rw [Int.toNat_natCast, rows_get cosAt n c p hp]
  have gs : rd_L1 (rowsOf sinAt n c) (p : Int) = rowOf sinAt n p := by unfold rd_L1; rw [Int.toNat_natCast, rows_get sinAt n c p hp]
  unfold impl_TurnAll.f impl_in.f
  rw [if_pos b1, Option.bind_some, if_pos (decide_eq_true b2), even_of n, if_neg (show ¬ (0 : Int) = 1 by decide), if_neg b3, if_pos ex, if_neg b4, rows_len, rows_len, w_less c hc, if_pos b5, Option.bind_some, decide_eq_true b6]
  rw [impl_TurnAll.j0, if_neg (by simp), if_pos b7, rows_len, rows_len, if_pos b8, if_pos b8, gc, gs, w_half n n2, row_len, row_len, if_pos rfl, impl_TurnAll.j1, if_neg (by simp)]
  have := all_from2 n n1 (Nat.le_trans n2 (by decide)) (rowOf cosAt n p) (rowOf sinAt n p) (row_len _ n p) (row_len _ n p) (row_bd _ cos_bd n p) (row_bd _ sin_bd n p) x h8 hb m j 0 [] h0m rfl hj
  rw [List.drop_zero, List.nil_append] at this
  exact this
set_option maxHeartbeats 4000000 in
theorem impl_none (n c : Nat) (h1 : n = 1 ∨ n = 2) (hc : c ≤ 24) (x : List Int) (hm : x.length % (2 * n) = 0) (h8 : x.length ≤ 8) (k : Nat) (hk : 20 < k) :
    impl_TurnAll.f k (rowsOf cosAt n c) (rowsOf sinAt n c) (c : Int) ((2 * n : Nat) : Int) x = some ([], false) := by
  obtain ⟨j, rfl⟩ : ∃ m, k = m + 1 + 1 := ⟨k - 2, by omega⟩
  have ex := mod_of x.length n hm
  clear hm
  have b1 : ((2 * n : Nat) : Int) ≥ 2 := by omega
  have b2 : ((2 * n : Nat) : Int) ≤ 8 := by omega
  have b3 : ¬ ((2 * n : Nat) : Int) = 0 := by omega
  have b4 : ¬ (x.length : Int) > 8 := by omega
  have b5 : (c : Int) ≥ 0 := by omega
  have b6 : ¬ (c : Int) ≤ (c : Int) - 1 := by omega
  unfold impl_TurnAll.f impl_in.f
  rw [if_pos b1, Option.bind_some, if_pos (decide_eq_true b2), even_of n, if_neg (show ¬ (0 : Int) = 1 by decide), if_neg b3, if_pos ex, if_neg b4, rows_len, rows_len, w_less c hc, if_pos b5, Option.bind_some, decide_eq_false b6]
  rw [impl_TurnAll.j0, if_pos (by rfl)]
def xAt (p : List Int) (i : Nat) : Int := rd p ((i % 12 : Nat) : Int) % 255 - 127
theorem x_w (p : List Int) (hp : p.length = 12) (hz : ∀ z ∈ p, 0 ≤ z ∧ z < 10000) (i : Nat) : wrap64 ((Int.tmod (rd p ((i % 12 : Nat) : Int)) 255) - 127) = xAt p i := by
  have hq : i % 12 < p.length := by rw [hp]; exact Nat.mod_lt _ (by omega)
  have hb := hz _ (List.getElem_mem hq)
  unfold xAt
  rw [rd_get p _ hq]
  generalize p[i % 12] = v at hb
  rw [Int.tmod_eq_emod_of_nonneg hb.1, w64 (by omega) (by omega)]
theorem w_four (n : Nat) (h : n ≤ 2) : wrap64 (4 * (n : Int)) = ((4 * n : Nat) : Int) := by rw [w64 (by omega) (by omega)]; omega
theorem w_two (n : Nat) (h : n ≤ 2) : wrap64 (2 * (n : Int)) = ((2 * n : Nat) : Int) := by rw [w64 (by omega) (by omega)]; omega
theorem e_12 (i : Nat) : Int.tmod (i : Int) 12 = ((i % 12 : Nat) : Int) := by rw [Int.tmod_eq_emod_of_nonneg (by omega)]; omega
set_option maxHeartbeats 4000000 in
theorem law_x (p : List Int) (hp : p.length = 12) (hz : ∀ z ∈ p, 0 ≤ z ∧ z < 10000) (n c : Nat) (hn : n ≤ 2) (P Q : List (List Int)) : ∀ d k i, i + d = 4 * n → d < k →
    laws_FnTurns.l0 k p (c : Int) (n : Int) ((List.range i).map (xAt p)) (i : Int) P Q = laws_FnTurns.l0 (k - d) p (c : Int) (n : Int) ((List.range (4 * n)).map (xAt p)) ((4 * n : Nat) : Int) P Q
  | 0, k, i, h1, h2 => by
    obtain rfl : i = 4 * n := by omega
    rfl
  | d + 1, k, i, h1, h2 => by
    obtain ⟨k, rfl⟩ : ∃ m, k = m + 1 := ⟨k - 1, by omega⟩
    have ih := law_x p hp hz n c hn P Q d k (i + 1) (by omega) (by omega)
    rw [range_succ_map] at ih
    have c1 : (i : Int) < ((4 * n : Nat) : Int) := by omega
    have c2 : (0 : Int) ≤ ((i % 12 : Nat) : Int) := Int.natCast_nonneg _
    have c3 : ((i % 12 : Nat) : Int) < (p.length : Int) := by rw [hp]; omega
    have c4 : ((List.range i).map (xAt p)).length < 17592186044416 := by rw [List.length_map, List.length_range]; omega
    have hi : i ≤ 100 := by omega
    rw [laws_FnTurns.l0, w_four n hn, if_pos c1, e_12 i, if_pos c2, if_pos c3, if_pos c4, x_w p hp hz i, w_up1 i hi, ih, Nat.add_sub_add_right]
set_option maxHeartbeats 8000000 in
theorem FnTurns : laws_FnTurns.Pure := by
  intro c hm hs hw
  unfold laws_FnTurns.f laws_big.f
  by_cases hbig : (c.length : Int) > 1048576
  · exact ⟨0, by rw [decide_eq_true hbig]; rfl⟩
  · rw [decide_eq_false hbig]
    obtain ⟨p, hp, hpl, hpz⟩ := places_tells c (by omega)
    obtain ⟨k, hk⟩ : ∃ k : Nat, k = 1000 := ⟨_, rfl⟩
    refine ⟨k, ?_⟩
    rw [Option.bind_some, if_neg (by simp), hp k (by omega), Option.bind_some, if_pos (by omega), if_pos (by omega)]
    have b0 := hpz _ (List.getElem_mem (show 0 < p.length by omega))
    have b1 := hpz _ (List.getElem_mem (show 1 < p.length by omega))
    have b2 := hpz _ (List.getElem_mem (show 2 < p.length by omega))
    have r0 := rd_get p 0 (by omega)
    have r1 := rd_get p 1 (by omega)
    have r2 := rd_get p 2 (by omega)
    obtain ⟨ctx, hctx, hc4, hc23⟩ : ∃ ctx : Nat, wrap64 (4 + (Int.tmod (rd p 0) 20)) = (ctx : Int) ∧ 4 ≤ ctx ∧ ctx ≤ 23 := by
      have e : rd p 0 = p[0] := r0
      rw [e, Int.tmod_eq_emod_of_nonneg b0.1, w64 (by omega) (by omega)]
      exact ⟨(4 + p[0] % 20).toNat, by omega, by omega, by omega⟩
    obtain ⟨n, hn, hn1, hn2⟩ : ∃ n : Nat, wrap64 (1 + (Int.tmod (rd p 1) 2)) = (n : Int) ∧ 1 ≤ n ∧ n ≤ 2 := by
      have e : rd p 1 = p[1] := r1
      rw [e, Int.tmod_eq_emod_of_nonneg b1.1, w64 (by omega) (by omega)]
      exact ⟨(1 + p[1] % 2).toNat, by omega, by omega, by omega⟩
    obtain ⟨pl, hpl2, hplc⟩ : ∃ pl : Nat, Int.tmod (rd p 2) (ctx : Int) = (pl : Int) ∧ pl < ctx := by
      have e : rd p 2 = p[2] := r2
      rw [e, Int.tmod_eq_emod_of_nonneg b2.1]
      have g1 := Int.emod_nonneg p[2] (show (ctx : Int) ≠ 0 by omega)
      have g2 := Int.emod_lt_of_pos p[2] (show (0 : Int) < ctx by omega)
      exact ⟨(p[2] % (ctx : Int)).toNat, by omega, by omega⟩
    rw [hctx, hn, impl_turnsFor n ctx hn1 (by omega) hc4 (by omega) k (by omega), Option.bind_some, if_pos rfl, impl_turnsOk n ctx hn1 (by omega) hc4 (by omega), Option.bind_some]
    obtain ⟨j, rfl⟩ : ∃ j, k = j + 1 := ⟨k - 1, by omega⟩
    rw [laws_FnTurns.j0, if_neg (by simp)]
    have hx := law_x p hpl hpz n ctx hn2 (rowsOf cosAt n ctx) (rowsOf sinAt n ctx) (4 * n) j 0 (by omega) (by omega)
    have hx0 : laws_FnTurns.l0 j p (ctx : Int) (n : Int) [] 0 (rowsOf cosAt n ctx) (rowsOf sinAt n ctx) = _ := hx
    rw [hx0]
    obtain ⟨x, hxe⟩ : ∃ x, x = (List.range (4 * n)).map (xAt p) := ⟨_, rfl⟩
    have hxl : x.length = 4 * n := by rw [hxe]; simp
    have hxb : ∀ z ∈ x, -127 ≤ z ∧ z ≤ 127 := by
      intro z hz
      rw [hxe] at hz
      obtain ⟨i, _, rfl⟩ := List.mem_map.mp hz
      have hq : i % 12 < p.length := by rw [hpl]; exact Nat.mod_lt _ (by omega)
      have hb := hpz _ (List.getElem_mem hq)
      unfold xAt
      rw [rd_get p _ hq]
      omega
    rw [← hxe]
    obtain ⟨q, hq⟩ : ∃ q, j - 4 * n = q + 1 := ⟨j - 4 * n - 1, by omega⟩
    have hq2 : 100 < q := by omega
    rw [hq]
    clear hx hx0 hctx hn r0 r1 r2 b0 b1 b2
    have g1 : ¬ ((4 * n : Nat) : Int) < ((4 * n : Nat) : Int) := by omega
    have g2 : (2 : Int) < (p.length : Int) := by omega
    have g3 : ¬ (ctx : Int) = 0 := by omega
    have g4 : (0 : Int) ≤ ((2 * n : Nat) : Int) := by omega
    have g5 : ((2 * n : Nat) : Int) ≤ (x.length : Int) := by omega
    have hod : n = 1 ∨ n = 2 := by omega
    obtain ⟨u, hu⟩ : ∃ u, u = x.take (2 * n) := ⟨_, rfl⟩
    obtain ⟨v, hv⟩ : ∃ v, v = x.drop (2 * n) := ⟨_, rfl⟩
    have huv : x = u ++ v := by rw [hu, hv, List.take_append_drop]
    have hul : u.length = 2 * n := by rw [hu, List.length_take]; omega
    have hvl : v.length = 2 * n := by rw [hv, List.length_drop]; omega
    have hub : ∀ z ∈ u, -127 ≤ z ∧ z ≤ 127 := fun z hz => hxb z (by rw [huv]; exact List.mem_append_left _ hz)
    have hvb : ∀ z ∈ v, -127 ≤ z ∧ z ≤ 127 := fun z hz => hxb z (by rw [huv]; exact List.mem_append_right _ hz)
    obtain ⟨A, hA⟩ : ∃ A, A = turned (2 * n) (rowOf cosAt n pl) (rowOf sinAt n pl) 0 x := ⟨_, rfl⟩
    obtain ⟨B, hB⟩ : ∃ B, B = turned (2 * n) (rowOf cosAt n pl) (rowOf sinAt n pl) 0 u := ⟨_, rfl⟩
    obtain ⟨C, hC⟩ : ∃ C, C = turned (2 * n) (rowOf cosAt n pl) (rowOf sinAt n pl) 0 v := ⟨_, rfl⟩
    have hABC : A = B ++ C := by
      have h2 := turned_again (2 * n) (rowOf cosAt n pl) (rowOf sinAt n pl) n v 0 hvl
      rw [hA, hB, hC, huv, turned_app (2 * n) _ _ n u v 0 hul, h2]
    have hAb := turned_bd (2 * n) (rowOf cosAt n pl) (rowOf sinAt n pl) (2 * n) x 0 (by omega)
    have hBb := turned_bd (2 * n) (rowOf cosAt n pl) (rowOf sinAt n pl) n u 0 hul
    rw [← hA] at hAb
    rw [← hB] at hBb
    have hAl : A.length = 4 * n := by rw [hAb.2, hxl]
    have hBl : B.length = 2 * n := by rw [hBb.2, hul]
    have tA := impl_all n ctx pl hod hplc (by omega) x (2 * n) (by omega) (by rw [hxl]; rcases hod with rfl | rfl <;> rfl) (by omega) hxb q (by omega)
    have tB := impl_all n ctx pl hod hplc (by omega) u n hul (by rw [hul, Nat.mod_self]) (by omega) hub q (by omega)
    have tC := impl_all n ctx pl hod hplc (by omega) v n hvl (by rw [hvl, Nat.mod_self]) (by omega) hvb q (by omega)
    have tN := impl_none n ctx hod (by omega) x (by rw [hxl]; rcases hod with rfl | rfl <;> rfl) (by omega) q (by omega)
    rw [← hA] at tA
    rw [← hB] at tB
    rw [← hC] at tC
    have tk : A.take (2 * n) = B := by rw [hABC, List.take_left' hBl]
    have dp : A.drop (2 * n) = C := by rw [hABC, List.drop_left' hBl]
    rw [laws_FnTurns.l0, w_four n hn2, w_two n hn2, if_neg g1, if_pos g2, if_neg g3, hpl2, tA, Option.bind_some, if_pos g4, if_pos g5, Int.toNat_natCast, ← hu, ← hv, tB, Option.bind_some, tC, Option.bind_some, tN, Option.bind_some, if_pos rfl, if_pos rfl, if_pos rfl, if_neg (by simp)]
    have by1 := byteish_yes A hAb.1 (by omega) q (by omega)
    rw [by1, Option.bind_some, if_pos rfl, if_pos (show (A.length : Int) = (x.length : Int) by omega), if_pos (show ((2 * n : Nat) : Int) ≤ (A.length : Int) by omega), tk, dp, same_tells B B (by omega) q (by omega), Option.bind_some, if_pos (by simp), same_tells C C (by rw [hC, (turned_bd (2 * n) _ _ n v 0 hvl).2]; omega) q (by rw [hC, (turned_bd (2 * n) _ _ n v 0 hvl).2]; omega), Option.bind_some]
    simp

end Go.Proofs.Ytigplfheldfciaa.Pure
