/- A page that the program takes from a drawn pool was free and is wanted by one; shared and dropped it is as it was; free pages and wanted ones are all. No conditions. -/
import Derived.Test.YtigplfheldfciaaPFnPoolsx
namespace Go.Proofs.Ytigplfheldfciaa.Pure
open Go.RowKit Go.Proofs.Ytigplfheldfciaa.PFnPools Go.Proofs.YtigplfheldfciaaW.PrintWords Go.Proofs.YtigplfheldfciaaW.PrintLast Go.Proofs.YtigplfheldfciaaW.PrintMore
set_option linter.unusedVariables false
set_option linter.unusedSimpArgs false

theorem w64 {i : Int} (h0 : -9223372036854775808 ≤ i) (h : i ≤ 9223372036854775807) : wrap64 i = i := by unfold wrap64; omega
theorem rd_get (l : List Int) (i : Nat) (h : i < l.length) : rd l (i : Int) = l[i] := by simp [rd, List.getD_eq_getElem?_getD, h]


theorem all_from (lo hi : Int) (l : List Int) (hl : l.length ≤ 9223372036854775806) (d : Nat) : ∀ (k i : Nat), i ≤ l.length → l.length - i = d → d < k →
    spec_l05All.l0 k l lo hi (i : Int) = some ((l.drop i).all fun x => decide (lo ≤ x) && decide (x ≤ hi)) := by
  induction d with
  | zero =>
    intro k i hi' hd hk
    obtain ⟨k, rfl⟩ : ∃ m, k = m + 1 := ⟨k - 1, by omega⟩
    rw [List.drop_of_length_le (by omega)]
    simp only [spec_l05All.l0]; rw [if_neg (by omega)]; rfl
  | succ d ih =>
    intro k i hi' hd hk
    obtain ⟨k, rfl⟩ : ∃ m, k = m + 1 := ⟨k - 1, by omega⟩
    have hlt : i < l.length := by omega
    simp only [spec_l05All.l0]
    rw [if_pos (by omega), if_pos (by omega), rd_get l i hlt, List.drop_eq_getElem_cons hlt, List.all_cons]
    unfold spec_l01In.f
    by_cases h1 : l[i] ≥ lo
    · rw [if_pos h1]
      simp only [Option.bind_some]
      by_cases h2 : l[i] ≤ hi
      · rw [decide_eq_true h2, if_pos rfl, w64 (by omega) (by omega), show ((i : Int) + 1) = ((i + 1 : Nat) : Int) by omega, ih k (i + 1) (by omega) (by omega) (by omega)]
        simp [h1]
      · rw [decide_eq_false h2]; simp
    · rw [if_neg h1]; simp only [Option.bind_some]; rw [decide_eq_false h1]; simp
/-- spec.l05All: all within. -/
theorem all_tells (lo hi : Int) (l : List Int) (hl : l.length ≤ 9223372036854775806) (k : Nat) (hk : l.length < k) : spec_l05All.f k l lo hi = some (l.all fun x => decide (lo ≤ x) && decide (x ≤ hi)) := by
  unfold spec_l05All.f
  have := all_from lo hi l hl l.length k 0 (by omega) (by omega) hk
  rw [List.drop_zero] at this
  exact this


def poolB (l : List Int) : Bool := decide (l.length ≤ 16) && l.all fun x => decide (0 ≤ x) && decide (x ≤ 20)
theorem spec_pool (l : List Int) (hl : l.length ≤ 9223372036854775806) (k : Nat) (hk : l.length < k) : spec_PoolOk.f k l = some (poolB l) := by
  unfold spec_PoolOk.f poolB
  by_cases h : l.length ≤ 16
  · rw [if_pos (by omega), all_tells 0 20 l hl k hk]; simp [h]
  · rw [if_neg (by omega)]; simp [h]
theorem impl_pool (l : List Int) : impl_PoolOk.f l = some (poolB l) := by
  unfold impl_PoolOk.f poolB impl_allIn.f
  by_cases h : l.length ≤ 16
  · rw [if_pos (by omega)]; simp [h]
  · rw [if_neg (by omega)]; simp [h]

/-- Where the first number x stands from place i on; -1. -/
def firstFrom (x : Int) (l : List Int) : Nat → Nat → Int
  | _, 0 => -1
  | i, d + 1 => if x = rd l (i : Int) then (i : Int) else firstFrom x l (i + 1) d
theorem first_lt (x : Int) (l : List Int) (d : Nat) : ∀ i, i + d = l.length → firstFrom x l i d < (l.length : Int) ∧ -1 ≤ firstFrom x l i d := by
  induction d with
  | zero => intro i h; unfold firstFrom; omega
  | succ d ih => intro i h; unfold firstFrom; have := ih (i + 1) (by omega); split <;> omega
theorem index_from (x : Int) (l : List Int) (hl : l.length ≤ 1048576) (d : Nat) : ∀ (k i : Nat), i + d = l.length → d < k →
    slices_Index_int_int.l0 k l x (l.length : Int) (i : Int) = some (firstFrom x l i d) := by
  induction d with
  | zero =>
    intro k i h hk
    obtain ⟨k, rfl⟩ : ∃ m, k = m + 1 := ⟨k - 1, by omega⟩
    simp only [slices_Index_int_int.l0, firstFrom]; rw [if_neg (by omega)]
  | succ d ih =>
    intro k i h hk
    obtain ⟨k, rfl⟩ : ∃ m, k = m + 1 := ⟨k - 1, by omega⟩
    simp only [slices_Index_int_int.l0, firstFrom]
    rw [if_pos (by omega), if_pos (by omega), if_pos (by omega), w64 (by omega) (by omega), show ((i : Int) + 1) = ((i + 1 : Nat) : Int) by omega, ih k (i + 1) (by omega) (by omega)]
    split <;> rfl
theorem index_tells (x : Int) (l : List Int) (hl : l.length ≤ 1048576) (k : Nat) (hk : l.length < k) : slices_Index_int_int.f k l x = some (firstFrom x l 0 l.length) := by
  unfold slices_Index_int_int.f
  exact index_from x l hl l.length k 0 (by omega) hk
def takenAt (l : List Int) (r : Int) : List Int × Int × Bool := if r < 0 then ([], 0, false) else (l.set r.toNat 1, r, true)
def taken (l : List Int) : List Int × Int × Bool := if poolB l = true then takenAt l (firstFrom 0 l 0 l.length) else ([], 0, false)
theorem taken_len (l : List Int) : (taken l).1.length ≤ l.length := by
  unfold taken takenAt; split
  · split <;> simp
  · simp
theorem spec_taken_from (l : List Int) (hp : poolB l = true) (hl : l.length ≤ 1048576) (d : Nat) : ∀ (k i : Nat), i + d = l.length → 2 * d + l.length + 2 < k →
    spec_TakePage.l0 k l l (i : Int) = some (takenAt l (firstFrom 0 l i d)) := by
  induction d with
  | zero =>
    intro k i h hk
    obtain ⟨k, rfl⟩ : ∃ m, k = m + 1 + 1 := ⟨k - 2, by omega⟩
    simp only [spec_TakePage.l0, firstFrom, takenAt]; rw [if_neg (by omega)]; simp [spec_TakePage.j1]
  | succ d ih =>
    intro k i h hk
    obtain ⟨k, rfl⟩ : ∃ m, k = m + 1 + 1 := ⟨k - 2, by omega⟩
    simp only [spec_TakePage.l0, firstFrom]
    rw [if_pos (by omega), spec_pool l (by omega) _ (by omega), hp]
    simp only [Option.bind_some, spec_TakePage.j1, if_true]
    rw [if_pos (by omega), if_pos (by omega), w64 (i := (i : Int) + 1) (by omega) (by omega), show ((i : Int) + 1) = ((i + 1 : Nat) : Int) by omega, ih k (i + 1) (by omega) (by omega)]
    by_cases e : rd l (i : Int) = 0
    · rw [if_pos e, if_pos e.symm, if_pos (by omega)]; unfold takenAt; rw [if_neg (by omega)]
    · rw [if_neg e, if_neg (fun h => e h.symm)]
theorem spec_taken (l : List Int) (hl : l.length ≤ 1048576) (k : Nat) (hk : 3 * l.length + 6 < k) : spec_TakePage.f k l = some (taken l) := by
  unfold spec_TakePage.f taken
  simp only [Option.bind_some, List.nil_append, List.length_nil, Nat.zero_add]
  rw [if_pos (by omega)]
  cases hp : poolB l with
  | true => rw [if_pos rfl]; exact spec_taken_from l hp hl l.length k 0 (by omega) (by omega)
  | false =>
    obtain ⟨k, rfl⟩ : ∃ m, k = m + 1 + 1 := ⟨k - 2, by omega⟩
    simp only [spec_TakePage.l0]
    split
    · rw [spec_pool l (by omega) _ (by omega), hp]; simp [spec_TakePage.j1]
    · simp [spec_TakePage.j1]
theorem impl_taken (l : List Int) (hl : l.length ≤ 1048576) (k : Nat) (hk : l.length < k) : impl_TakePage.f k l = some (taken l) := by
  unfold impl_TakePage.f taken slices_Clone_int_int.f
  have hr := first_lt 0 l l.length 0 (by omega)
  rw [index_tells 0 l hl k hk, impl_pool]
  generalize firstFrom 0 l 0 l.length = r at hr
  simp only [Option.bind_some]
  cases hp : poolB l with
  | true =>
    simp only [if_true]
    unfold takenAt
    by_cases h : r < 0
    · rw [if_pos h, if_pos h]
    · rw [if_neg h, if_neg h, if_pos (by omega)]
      simp only [Option.bind_some]
      rw [if_pos (by omega), if_pos (by omega)]
  | false => simp

def changed (l : List Int) (p b : Int) : List Int × Bool :=
  if poolB l = true ∧ 0 ≤ p ∧ p < (l.length : Int) ∧ rd l p ≠ 0 then
    (if poolB (l.set p.toNat (wrap64 (rd l p + b))) = true then (l.set p.toNat (wrap64 (rd l p + b)), true) else ([], false))
  else ([], false)
theorem changed_len (l : List Int) (p b : Int) : (changed l p b).1.length ≤ l.length := by
  unfold changed; split
  · split <;> simp
  · simp
theorem impl_changed (l : List Int) (p b : Int) (hl : l.length ≤ 1048576) (k : Nat) (hk : l.length + 5 < k) : impl_moved.f k l p b = some (changed l p b) := by
  obtain ⟨k, rfl⟩ : ∃ m, k = m + 1 := ⟨k - 1, by omega⟩
  unfold impl_moved.f changed impl_in.f
  rw [impl_pool l, w64 (by omega) (by omega)]
  simp only [Option.bind_some]
  by_cases h : poolB l = true
  · rw [if_pos h]
    by_cases h1 : p ≥ 0
    · rw [if_pos h1]; simp only [Option.bind_some]
      by_cases h2 : p ≤ (l.length : Int) - 1
      · rw [decide_eq_true h2, if_pos rfl, if_pos (by omega), if_pos (by omega)]
        by_cases h3 : rd l p = 0
        · rw [if_neg (fun e => e.2.2.2 h3)]
          simp [impl_moved.j0, h3]
        · rw [if_pos ⟨h, by omega, by omega, h3⟩]
          simp only [impl_moved.j0, slices_Clone_int_int.f]
          rw [if_neg (by simpa using h3), if_pos (by omega)]
          simp only [Option.bind_some]
          rw [if_pos (by omega), if_pos (by omega), impl_pool]
          simp only [Option.bind_some]
          split <;> rfl
      · rw [decide_eq_false h2, if_neg (by simp), if_neg (by omega)]; simp [impl_moved.j0]
    · rw [if_neg h1]; simp only [Option.bind_some]
      rw [if_neg (by simp), if_neg (by omega)]; simp [impl_moved.j0]
  · rw [if_neg h, if_neg (fun e => h e.1)]; simp [impl_moved.j0]

theorem impl_share (l : List Int) (p : Int) (hl : l.length ≤ 1048576) (k : Nat) (hk : l.length + 5 < k) : impl_SharePage.f k l p = some (changed l p 1) := by
  unfold impl_SharePage.f; rw [impl_changed l p 1 hl k hk]; rfl

theorem impl_drop (l : List Int) (p : Int) (hl : l.length ≤ 1048576) (k : Nat) (hk : l.length + 5 < k) : impl_DropPage.f k l p = some (changed l p (-1)) := by
  unfold impl_DropPage.f; rw [impl_changed l p (-1) hl k hk]; rfl

def countZ (l : List Int) : Nat := l.countP (fun x => decide (x = 0))
theorem impl_free_from (l : List Int) (hl : l.length ≤ 1048576) (d : Nat) : ∀ (k i : Nat) (c : Int), i + d = l.length → d < k → 0 ≤ c → c ≤ (i : Int) →
    impl_FreePages.l0 k c l (l.length : Int) (i : Int) = some (c + (countZ (l.drop i) : Int)) := by
  induction d with
  | zero =>
    intro k i c h hk h0 h1
    obtain ⟨k, rfl⟩ : ∃ m, k = m + 1 := ⟨k - 1, by omega⟩
    rw [impl_FreePages.l0, if_neg (by omega), List.drop_of_length_le (by omega)]; simp [countZ]
  | succ d ih =>
    intro k i c h hk h0 h1
    obtain ⟨k, rfl⟩ : ∃ m, k = m + 1 := ⟨k - 1, by omega⟩
    have hlt : i < l.length := by omega
    rw [impl_FreePages.l0, if_pos (by omega), if_pos (by omega), if_pos (by omega), rd_get l i hlt, w64 (i := c + 1) (by omega) (by omega), w64 (i := (i : Int) + 1) (by omega) (by omega), show ((i : Int) + 1) = ((i + 1 : Nat) : Int) by omega, ih k (i + 1) (c + 1) (by omega) (by omega) (by omega) (by omega), ih k (i + 1) c (by omega) (by omega) (by omega) (by omega), List.drop_eq_getElem_cons hlt]
    unfold countZ
    rw [List.countP_cons]
    by_cases e : l[i] = 0
    · rw [if_pos e, decide_eq_true e]; congr 1; simp; omega
    · rw [if_neg e, decide_eq_false e]; congr 1
theorem impl_free (l : List Int) (hl : l.length ≤ 1048576) (k : Nat) (hk : l.length < k) : impl_FreePages.f k l = some (if poolB l = true then (countZ l : Int) else 0) := by
  unfold impl_FreePages.f
  rw [impl_pool, Option.bind_some]
  by_cases hp : poolB l = true
  · rw [if_pos hp, if_pos hp]
    have := impl_free_from l hl l.length k 0 0 (by omega) hk (by omega) (by omega)
    rw [List.drop_zero, Int.zero_add] at this
    exact this
  · rw [if_neg hp, if_neg hp]

theorem and_small (m : Nat) (hm : m < 9223372036854775808) (x : Int) : 0 ≤ Go.bits .and .i64 x (m : Int) ∧ Go.bits .and .i64 x (m : Int) ≤ (m : Int) := by
  simp only [Go.bits, BitVec.toNat_and]
  have h1 : (BitVec.ofInt IntKind.i64.bits x).toNat &&& (BitVec.ofInt IntKind.i64.bits (m : Int)).toNat ≤ m := by
    refine Nat.le_trans Nat.and_le_right ?_
    rw [BitVec.ofInt_natCast, BitVec.toNat_ofNat]
    exact Nat.mod_le _ _
  generalize (BitVec.ofInt IntKind.i64.bits x).toNat &&& (BitVec.ofInt IntKind.i64.bits (m : Int)).toNat = y at h1
  rw [IntKind.wrap_i64]
  omega
/-- A cursor's place. -/
def Cu (b : List Int) (i : Int) : Prop := 0 ≤ i ∧ i ≤ (b.length : Int) ∧ b.length ≤ 1048576
theorem byte_tells (b : List Int) (i h : Int) (hc : Cu b i) : ∃ v i' h', spec_l01Byte.f b i h = some (v, i', h') ∧ 0 ≤ v ∧ v ≤ 255 ∧ Cu b i' := by
  obtain ⟨h0, h1, h2⟩ := hc
  unfold spec_l01Byte.f
  by_cases hl : i < (b.length : Int)
  · rw [if_pos hl, if_pos h0, w64 (i := i + 1) (by omega) (by omega)]
    exact ⟨_, _, _, rfl, (and_small 255 (by decide) _).1, (and_small 255 (by decide) _).2, by omega, by omega, h2⟩
  · rw [if_neg hl]
    exact ⟨_, _, _, rfl, (and_small 255 (by decide) _).1, (and_small 255 (by decide) _).2, h0, h1, h2⟩
theorem below_tells (b : List Int) (i h : Int) (hc : Cu b i) (n : Int) (hn : 0 < n) (hn2 : n ≤ 4294967296) : ∃ v i' h', spec_l01Below.f b i h n = some (v, i', h') ∧ 0 ≤ v ∧ v < n ∧ Cu b i' := by
  unfold spec_l01Below.f
  rw [if_neg (by omega)]
  obtain ⟨v, i', h', e, v0, v1, hc'⟩ := byte_tells b i h hc
  by_cases h256 : n ≤ 256
  · rw [if_pos h256, e]
    simp only [Option.bind_some]
    rw [if_neg (by omega), Int.tmod_eq_emod_of_nonneg v0]
    exact ⟨_, _, _, rfl, Int.emod_nonneg _ (by omega), Int.emod_lt_of_pos _ hn, hc'⟩
  · obtain ⟨v2, i2, h2, e2, v20, v21, hc2⟩ := byte_tells b i' h' hc'
    obtain ⟨v3, i3, h3, e3, v30, v31, hc3⟩ := byte_tells b i2 h2 hc2
    obtain ⟨v4, i4, h4, e4, v40, v41, hc4⟩ := byte_tells b i3 h3 hc3
    rw [if_neg h256, e]
    simp only [Option.bind_some, e2, e3, e4]
    rw [if_neg (by omega), w64 (i := v * 16777216) (by omega) (by omega), w64 (i := v2 * 65536) (by omega) (by omega), w64 (i := v3 * 256) (by omega) (by omega), w64 (i := v * 16777216 + v2 * 65536) (by omega) (by omega), w64 (i := v * 16777216 + v2 * 65536 + v3 * 256) (by omega) (by omega), w64 (by omega) (by omega), Int.tmod_eq_emod_of_nonneg (by omega)]
    exact ⟨_, _, _, rfl, Int.emod_nonneg _ (by omega), Int.emod_lt_of_pos _ hn, hc4⟩
/-- a number of at most 0: nothing is drawn -/
theorem below_none (b : List Int) (i h : Int) (n : Int) (hn : n ≤ 0) : spec_l01Below.f b i h n = some (0, i, h) := by
  unfold spec_l01Below.f
  rw [if_pos hn]

theorem pick_tells (b : List Int) (i h : Int) (hc : Cu b i) (l : List Int) (hl : 0 < l.length) (hl2 : l.length ≤ 1000) : ∃ v i' h', spec_l01PickInt.f b i h l = some (v, i', h') ∧ v ∈ l ∧ Cu b i' := by
  obtain ⟨v, i', h', e, v0, v1, hc'⟩ := below_tells b i h hc (l.length : Int) (by omega) (by omega)
  unfold spec_l01PickInt.f
  rw [e, Option.bind_some, if_pos v0, if_pos v1]
  refine ⟨_, _, _, rfl, ?_, hc'⟩
  obtain ⟨m, rfl⟩ := Int.eq_ofNat_of_zero_le v0
  rw [rd_get l m (by omega)]
  exact List.getElem_mem _

theorem refs1_from (b : List Int) (d : Nat) : ∀ (acc : List Int) (i h : Int), acc.length + d = 18 → Cu b i →
    ∃ r i' h', (∀ k', d < k' → spec_l13Refs.l1 k' acc b i h = some (r, i', h')) ∧ r.length ≤ 18 := by
  induction d with
  | zero =>
    intro acc i h ha hc
    obtain ⟨v, i1, h1, e, v0, v1, hc1⟩ := below_tells b i h hc 2 (by omega) (by omega)
    refine ⟨acc, i1, h1, fun k' hk' => ?_, by omega⟩
    obtain ⟨k', rfl⟩ : ∃ m, k' = m + 1 := ⟨k' - 1, by omega⟩
    rw [spec_l13Refs.l1, e, Option.bind_some, if_neg (by show ¬ _ < wrap64 (16 + v); rw [w64 (by omega) (by omega)]; omega)]
  | succ d ih =>
    intro acc i h ha hc
    obtain ⟨v, i1, h1, e, v0, v1, hc1⟩ := below_tells b i h hc 2 (by omega) (by omega)
    by_cases g : (acc.length : Int) < 16 + v
    · obtain ⟨r, i', h', hr, hl⟩ := ih (acc ++ [1]) i1 h1 (by simp; omega) hc1
      refine ⟨r, i', h', fun k' hk' => ?_, hl⟩
      obtain ⟨k', rfl⟩ : ∃ m, k' = m + 1 := ⟨k' - 1, by omega⟩
      rw [spec_l13Refs.l1, e, Option.bind_some, if_pos (by show _ < wrap64 (16 + v); rw [w64 (by omega) (by omega)]; omega), if_pos (by omega)]
      exact hr k' (by omega)
    · refine ⟨acc, i1, h1, fun k' hk' => ?_, by omega⟩
      obtain ⟨k', rfl⟩ : ∃ m, k' = m + 1 := ⟨k' - 1, by omega⟩
      rw [spec_l13Refs.l1, e, Option.bind_some, if_neg (by show ¬ _ < wrap64 (16 + v); rw [w64 (by omega) (by omega)]; omega)]
theorem refs_end (b : List Int) (j : Nat) (acc : List Int) (i h : Int) {d : Nat} (hj : j + d = 8) (ha : acc.length = j) (hc : Cu b i) (v i1 h1 : Int) (e : spec_l01Below.f b i h 8 = some (v, i1, h1)) (v0 : 0 ≤ v) (v1 : v < 8) (hc1 : Cu b i1) (g : ¬ (j : Int) < v) :
    ∃ r i' h', (∀ k', 0 + 30 < k' → spec_l13Refs.l0 k' acc (j : Int) b i h = some (r, i', h')) ∧ r.length ≤ 18 := by
  by_cases hz : acc.length = 0
  · refine ⟨acc, i1, h1, fun k' hk' => ?_, by omega⟩
    obtain ⟨k', rfl⟩ : ∃ m, k' = m + 1 := ⟨k' - 1, by omega⟩
    rw [spec_l13Refs.l0, e, Option.bind_some, if_neg g, if_pos (by omega)]
  · obtain ⟨x, i2, h2, e2, x0, x1, hc2⟩ := below_tells b i1 h1 hc1 20 (by omega) (by omega)
    by_cases g0 : x = 0
    · obtain ⟨y, i3, h3, e3, y0, y1, hc3⟩ := below_tells b i2 h2 hc2 (acc.length : Int) (by omega) (by omega)
      obtain ⟨z, i4, h4, e4, hz4, hc4⟩ := pick_tells b i3 h3 hc3 [(-1), 20, 21] (by simp) (by simp)
      refine ⟨acc.set y.toNat z, i4, h4, fun k' hk' => ?_, by simp; omega⟩
      obtain ⟨k', rfl⟩ : ∃ m, k' = m + 1 := ⟨k' - 1, by omega⟩
      rw [spec_l13Refs.l0, e, Option.bind_some, if_neg g, if_neg (by omega), e2, Option.bind_some, if_pos g0, e3, Option.bind_some, e4, Option.bind_some, if_pos y0, if_pos y1]
    · by_cases g1 : x = 1
      · obtain ⟨r, i', h', hr, hl⟩ := refs1_from b (18 - acc.length) acc i2 h2 (by omega) hc2
        refine ⟨r, i', h', fun k' hk' => ?_, hl⟩
        obtain ⟨k', rfl⟩ : ∃ m, k' = m + 1 := ⟨k' - 1, by omega⟩
        rw [spec_l13Refs.l0, e, Option.bind_some, if_neg g, if_neg (by omega), e2, Option.bind_some, if_neg g0, if_pos g1]
        exact hr k' (by omega)
      · refine ⟨acc, i2, h2, fun k' hk' => ?_, by omega⟩
        obtain ⟨k', rfl⟩ : ∃ m, k' = m + 1 := ⟨k' - 1, by omega⟩
        rw [spec_l13Refs.l0, e, Option.bind_some, if_neg g, if_neg (by omega), e2, Option.bind_some, if_neg g0, if_neg g1]
theorem refs_from (b : List Int) (d : Nat) : ∀ (j : Nat) (acc : List Int) (i h : Int), j + d = 8 → acc.length = j → Cu b i →
    ∃ r i' h', (∀ k', d + 30 < k' → spec_l13Refs.l0 k' acc (j : Int) b i h = some (r, i', h')) ∧ r.length ≤ 18 := by
  induction d with
  | zero =>
    intro j acc i h hj ha hc
    obtain ⟨v, i1, h1, e, v0, v1, hc1⟩ := below_tells b i h hc 8 (by omega) (by omega)
    exact refs_end b j acc i h hj ha hc v i1 h1 e v0 v1 hc1 (by omega)
  | succ d ih =>
    intro j acc i h hj ha hc
    obtain ⟨v, i1, h1, e, v0, v1, hc1⟩ := below_tells b i h hc 8 (by omega) (by omega)
    by_cases g : (j : Int) < v
    · obtain ⟨x, i2, h2, e2, x0, x1, hc2⟩ := below_tells b i1 h1 hc1 4 (by omega) (by omega)
      obtain ⟨y, i3, h3, e3, y0, y1, hc3⟩ := below_tells b i2 h2 hc2 2 (by omega) (by omega)
      obtain ⟨r, i', h', hr, hl⟩ := ih (j + 1) (acc ++ [wrap64 (x * y)]) i3 h3 (by omega) (by simp; omega) hc3
      refine ⟨r, i', h', fun k' hk' => ?_, hl⟩
      obtain ⟨k', rfl⟩ : ∃ m, k' = m + 1 := ⟨k' - 1, by omega⟩
      rw [spec_l13Refs.l0, e, Option.bind_some, if_pos g, e2, Option.bind_some, e3, Option.bind_some, if_pos (by omega), w64 (i := (j : Int) + 1) (by omega) (by omega), show ((j : Int) + 1) = ((j + 1 : Nat) : Int) by omega]
      exact hr k' (by omega)
    · obtain ⟨r, i', h', hr, hl⟩ := refs_end b j acc i h (by omega) ha hc v i1 h1 e v0 v1 hc1 g
      exact ⟨r, i', h', fun k' hk' => hr k' (by omega), hl⟩

theorem same_from (a b : List Int) (hl : a.length ≤ 9223372036854775806) (hab : a.length = b.length) (d : Nat) : ∀ (k i : Nat), i ≤ a.length → a.length - i = d → d < k →
    laws_sameInts.l0 k a b (i : Int) = some (decide (a.drop i = b.drop i)) := by
  induction d with
  | zero =>
    intro k i hi' hd hk
    obtain ⟨k, rfl⟩ : ∃ m, k = m + 1 := ⟨k - 1, by omega⟩
    rw [List.drop_of_length_le (by omega), List.drop_of_length_le (by omega)]
    simp only [laws_sameInts.l0]; rw [if_neg (by omega)]; simp
  | succ d ih =>
    intro k i hi' hd hk
    obtain ⟨k, rfl⟩ : ∃ m, k = m + 1 := ⟨k - 1, by omega⟩
    have hlt : i < a.length := by omega
    have hltb : i < b.length := by omega
    simp only [laws_sameInts.l0]
    rw [if_pos (by omega), if_pos (by omega), if_pos (by omega), rd_get a i hlt, rd_get b i hltb, List.drop_eq_getElem_cons hlt, List.drop_eq_getElem_cons hltb]
    by_cases h : a[i] = b[i]
    · rw [if_pos h, w64 (by omega) (by omega), show ((i : Int) + 1) = ((i + 1 : Nat) : Int) by omega, ih k (i + 1) (by omega) (by omega) (by omega)]
      congr 1
      rw [decide_eq_decide]
      simp only [h, List.cons.injEq, true_and]
    · rw [if_neg h, decide_eq_false (fun e => h (List.cons.inj e).1)]
/-- laws.sameInts: equal lists. -/
theorem same_tells (a b : List Int) (hl : a.length ≤ 9223372036854775806) (k : Nat) (hk : a.length < k) : laws_sameInts.f k a b = some (decide (a = b)) := by
  unfold laws_sameInts.f
  by_cases h : a.length = b.length
  · rw [if_pos (by omega)]
    have := same_from a b hl h a.length k 0 (by omega) (by omega) hk
    simpa using this
  · rw [if_neg (by omega), decide_eq_false]
    intro e; rw [e] at h; exact h rfl

theorem draw_pool (c : List Int) (hc : c.length ≤ 1048576) : ∃ r, (∀ k, 60 < k → spec_DrawTakePage.f k c = some r) ∧ r.length ≤ 18 := by
  have hc0 : Cu c 0 := ⟨by omega, by omega, by omega⟩
  obtain ⟨r, i', h', hr, hl⟩ := refs_from c 8 0 [] 0 (spec_l01New.hash c) (by omega) rfl hc0
  refine ⟨r, fun k hk => ?_, hl⟩
  unfold spec_DrawTakePage.f spec_l01New.f spec_l13Refs.f
  rw [Option.bind_some]
  have := hr k (by omega)
  rw [show ((0 : Nat) : Int) = 0 from rfl] at this
  rw [this, Option.bind_some]
theorem first_at (x : Int) (l : List Int) (d : Nat) : ∀ i, i + d = l.length → 0 ≤ firstFrom x l i d → rd l (firstFrom x l i d) = x := by
  induction d with
  | zero => intro i h h0; unfold firstFrom at h0; omega
  | succ d ih =>
    intro i h h0
    unfold firstFrom at h0 ⊢
    by_cases e : x = rd l (i : Int)
    · rw [if_pos e]; exact e.symm
    · rw [if_neg e] at h0 ⊢; exact ih (i + 1) (by omega) h0
theorem pool_set (l : List Int) (r : Nat) (v : Int) (h : poolB l = true) (h0 : 0 ≤ v) (h1 : v ≤ 20) : poolB (l.set r v) = true := by
  unfold poolB at h ⊢
  simp only [Bool.and_eq_true, decide_eq_true_eq, List.all_eq_true, List.length_set] at h ⊢
  refine ⟨h.1, fun x hx => ?_⟩
  rcases List.mem_or_eq_of_mem_set hx with h' | h'
  · exact h.2 x h'
  · subst h'; exact ⟨h0, h1⟩
theorem rd_set (l : List Int) (r : Nat) (v : Int) (h : r < l.length) : rd (l.set r v) (r : Int) = v := by
  rw [rd_get _ r (by simpa using h)]; simp
theorem share_drop (l : List Int) (r : Nat) (v w : Int) (b : Int) (hr : r < l.length) (h : poolB l = true) (hv : rd l (r : Int) = v) (h0 : v ≠ 0) (hb : wrap64 (v + b) = w) (w0 : 0 ≤ w) (w1 : w ≤ 20) : changed l (r : Int) b = (l.set r w, true) := by
  unfold changed
  rw [if_pos ⟨h, by omega, by omega, by rw [hv]; exact h0⟩, hv, hb, Int.toNat_natCast, if_pos (pool_set l r w h w0 w1)]
theorem FnPools : laws_FnPools.Pure := by
  intro c hm hs hw
  obtain ⟨k, hk⟩ : ∃ k : Nat, k = 200 := ⟨_, rfl⟩
  refine ⟨k, ?_⟩
  unfold laws_FnPools.f laws_big.f
  rw [Option.bind_some]
  by_cases hb : (c.length : Int) > 1048576
  · rw [decide_eq_true hb, if_pos rfl]
  · rw [decide_eq_false hb, if_neg (by simp)]
    obtain ⟨l, e, hl⟩ := draw_pool c (by omega)
    rw [e k (by omega), Option.bind_some, impl_taken l (by omega) k (by omega), Option.bind_some, spec_taken l (by omega) k (by omega), Option.bind_some, if_neg (by simp), impl_pool, Option.bind_some, spec_pool l (by omega) k (by omega), Option.bind_some]
    obtain ⟨j, rfl⟩ : ∃ j, k = j + 1 := ⟨k - 1, by omega⟩
    rw [laws_FnPools.j0, if_neg (by simp)]
    have hno : ∀ (hn : taken l = ([], 0, false)), (taken l).2.2 = false := fun hn => by rw [hn]
    by_cases hp : poolB l = true
    · by_cases hr : firstFrom 0 l 0 l.length < 0
      · have ht : taken l = ([], 0, false) := by unfold taken takenAt; rw [if_pos hp, if_pos hr]
        rw [ht, if_neg (by simp)]; rfl
      · have hlt := first_lt 0 l l.length 0 (by omega)
        have hat := first_at 0 l l.length 0 (by omega) (by omega)
        have ht : taken l = (l.set (firstFrom 0 l 0 l.length).toNat 1, firstFrom 0 l 0 l.length, true) := by unfold taken takenAt; rw [if_pos hp, if_neg hr]
        generalize firstFrom 0 l 0 l.length = r at hr hlt hat ht
        obtain ⟨r, rfl⟩ := Int.eq_ofNat_of_zero_le (by omega : 0 ≤ r)
        rw [Int.toNat_natCast] at ht
        rw [ht]
        have hr' : r < l.length := by omega
        have p1 := pool_set l r 1 hp (by omega) (by omega)
        have p2 := pool_set (l.set r 1) r 2 p1 (by omega) (by omega)
        have p3 := pool_set ((l.set r 1).set r 2) r 1 p2 (by omega) (by omega)
        have hself : l.set r 0 = l := by
          have : l[r] = 0 := by rw [← rd_get l r hr']; exact hat
          rw [← this]; exact List.set_getElem_self hr'
        have s1 := share_drop (l.set r 1) r 1 2 1 (by simpa using hr') p1 (rd_set l r 1 hr') (by omega) (w64 (by omega) (by omega)) (by omega) (by omega)
        have s2 := share_drop ((l.set r 1).set r 2) r 2 1 (-1) (by simpa using hr') p2 (rd_set _ r 2 (by simpa using hr')) (by omega) (w64 (by omega) (by omega)) (by omega) (by omega)
        have s3 := share_drop (((l.set r 1).set r 2).set r 1) r 1 0 (-1) (by simpa using hr') p3 (rd_set _ r 1 (by simpa using hr')) (by omega) (w64 (by omega) (by omega)) (by omega) (by omega)
        simp only [List.set_set] at s1 s2 s3
        rw [hself] at s3
        have s4 : changed l (r : Int) (-1) = ([], false) := by
          unfold changed; rw [if_neg (fun h => h.2.2.2 hat)]
        have m1 := rd_set l r 1 hr'
        have m2 := rd_set l r 2 hr'
        have hcz : countZ l = countZ (l.set r 1) + 1 := by
          have h1 : countZ (l.set r 0) = countZ (l.set r 1) + 1 := by
            unfold countZ
            rw [List.set_eq_take_append_cons_drop, List.set_eq_take_append_cons_drop, if_pos hr', if_pos hr', List.countP_append, List.countP_append, List.countP_cons, List.countP_cons]
            simp; omega
          rw [hself] at h1; exact h1
        dsimp only
        rw [if_pos rfl, impl_share _ _ (by simp; omega) j (by simp; omega), s1, Option.bind_some]
        dsimp only
        rw [impl_drop _ _ (by simp; omega) j (by simp; omega), s2, Option.bind_some]
        dsimp only
        rw [impl_drop _ _ (by simp; omega) j (by simp; omega), s3, Option.bind_some]
        dsimp only
        rw [impl_drop _ _ (by omega) j (by omega), s4, Option.bind_some, if_pos (by omega), if_pos (by omega), if_pos hat, if_pos (by simp; omega), if_pos m1, if_pos rfl, if_pos rfl, if_pos rfl, if_neg (by simp), if_pos (by simp; omega), if_pos m2, same_tells _ _ (by simp; omega) j (by simp; omega), decide_eq_true rfl, Option.bind_some, if_pos rfl, same_tells _ _ (by omega) j (by omega), decide_eq_true rfl, Option.bind_some, if_pos rfl, impl_free _ (by simp; omega) j (by simp; omega), Option.bind_some, impl_free _ (by omega) j (by omega), Option.bind_some, if_pos p1, if_pos hp, w64 (by omega) (by have : countZ l ≤ l.length := List.countP_le_length; omega)]
        congr 1
        simp; omega
    · have ht : taken l = ([], 0, false) := by unfold taken; rw [if_neg hp]
      rw [ht, if_neg (by simp)]; rfl

end Go.Proofs.Ytigplfheldfciaa.Pure
