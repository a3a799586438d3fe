/- Two drawn states that are added by the program's AddState stay within their bounds, whichever comes first; where their sum is within the bounds it is the sum; and the program tells as the reference does whether they may be added. No conditions. -/
import Derived.Test.YtigplfheldfciaaPFnStatesx
namespace Go.Proofs.Ytigplfheldfciaa.Pure
open Go.RowKit Go.Proofs.Ytigplfheldfciaa.PFnStates Go.Proofs.YtigplfheldfciaaW.PrintWords Go.Proofs.YtigplfheldfciaaW.PrintLast Go.Proofs.YtigplfheldfciaaW.PrintMore
set_option linter.unusedVariables false
set_option linter.unusedSimpArgs false

theorem w64 {i : Int} (h0 : -9223372036854775808 ≤ i) (h : i ≤ 9223372036854775807) : wrap64 i = i := by unfold wrap64; omega
theorem rd_get (l : List Int) (i : Nat) (h : i < l.length) : rd l (i : Int) = l[i] := by simp [rd, List.getD_eq_getElem?_getD, h]


theorem all_from (lo hi : Int) (l : List Int) (hl : l.length ≤ 9223372036854775806) (d : Nat) : ∀ (k i : Nat), i ≤ l.length → l.length - i = d → d < k →
    spec_l05All.l0 k l lo hi (i : Int) = some ((l.drop i).all fun x => decide (lo ≤ x) && decide (x ≤ hi)) := by
  induction d with
  | zero =>
    intro k i hi' hd hk
    obtain ⟨k, rfl⟩ : ∃ m, k = m + 1 := ⟨k - 1, by omega⟩
    rw [List.drop_of_length_le (by omega)]
    simp only [spec_l05All.l0]; rw [if_neg (by omega)]; rfl
  | succ d ih =>
    intro k i hi' hd hk
    obtain ⟨k, rfl⟩ : ∃ m, k = m + 1 := ⟨k - 1, by omega⟩
    have hlt : i < l.length := by omega
    simp only [spec_l05All.l0]
    rw [if_pos (by omega), if_pos (by omega), rd_get l i hlt, List.drop_eq_getElem_cons hlt, List.all_cons]
    unfold spec_l01In.f
    by_cases h1 : l[i] ≥ lo
    · rw [if_pos h1]
      simp only [Option.bind_some]
      by_cases h2 : l[i] ≤ hi
      · rw [decide_eq_true h2, if_pos rfl, w64 (by omega) (by omega), show ((i : Int) + 1) = ((i + 1 : Nat) : Int) by omega, ih k (i + 1) (by omega) (by omega) (by omega)]
        simp [h1]
      · rw [decide_eq_false h2]; simp
    · rw [if_neg h1]; simp only [Option.bind_some]; rw [decide_eq_false h1]; simp
/-- spec.l05All: all within. -/
theorem all_tells (lo hi : Int) (l : List Int) (hl : l.length ≤ 9223372036854775806) (k : Nat) (hk : l.length < k) : spec_l05All.f k l lo hi = some (l.all fun x => decide (lo ≤ x) && decide (x ≤ hi)) := by
  unfold spec_l05All.f
  have := all_from lo hi l hl l.length k 0 (by omega) (by omega) hk
  rw [List.drop_zero] at this
  exact this


def clampZ (x m : Int) : Int := if x > m then m else if x < -m then -m else x
theorem spec_clamp (x m : Int) (h : 0 ≤ m) (h2 : m ≤ 1000000000) : spec_l03Clamp.f x m = some (clampZ x m) := by
  unfold spec_l03Clamp.f clampZ
  rw [w64 (by omega) (by omega)]
  split
  · rfl
  · split <;> rfl
theorem impl_clamp (x m : Int) (h : 0 ≤ m) (h2 : m ≤ 1000000000) : impl_Clamp.f x m = some (clampZ x m) := by
  unfold impl_Clamp.f clampZ mx mn
  rw [if_neg (by omega), w64 (by omega) (by omega)]
  congr 1
  repeat' split
  all_goals omega

def addG (x y : List Int) (j : Nat) : Int := clampZ (wrap64 (rd x (j : Int) + rd y (j : Int))) 500
def addL (x y : List Int) (n : Nat) : List Int := (List.range n).map (addG x y)
theorem addL_len (x y : List Int) (n : Nat) : (addL x y n).length = n := by simp [addL]
theorem addL_succ (x y : List Int) (n : Nat) : addL x y (n + 1) = addL x y n ++ [addG x y n] := by simp [addL, List.range_succ]
theorem addL_comm (x y : List Int) (n : Nat) : addL x y n = addL y x n := by
  unfold addL
  congr 1
  funext j
  unfold addG
  rw [Int.add_comm]
theorem addL_at (x y : List Int) (n j : Nat) (h : j < n) : rd (addL x y n) (j : Int) = addG x y j := by
  rw [rd_get _ j (by rw [addL_len]; exact h)]; simp [addL]
def withinB (x : List Int) : Bool := x.all fun z => decide (-1000 ≤ z) && decide (z ≤ 1000)
theorem within_def (x : List Int) : (x.all fun z => decide (-1000 ≤ z) && decide (z ≤ 1000)) = withinB x := rfl
def addOk (x y : List Int) : Prop := x.length = y.length ∧ x.length ≤ 8 ∧ withinB x = true ∧ withinB y = true
open Classical in
noncomputable def addOf (x y : List Int) : List Int × Bool := if addOk x y then (addL x y x.length, true) else ([], false)
theorem addOf_yes (x y : List Int) (h : addOk x y) : addOf x y = (addL x y x.length, true) := by unfold addOf; rw [if_pos h]
theorem addOf_no (x y : List Int) (h : ¬ addOk x y) : addOf x y = ([], false) := by unfold addOf; rw [if_neg h]
theorem addOf_len (x y : List Int) : (addOf x y).1.length ≤ x.length := by
  by_cases h : addOk x y
  · rw [addOf_yes x y h]; simp [addL_len]
  · rw [addOf_no x y h]; simp
theorem spec_add_from (x0 x1 : List Int) (hab : x0.length = x1.length) (hl : x0.length ≤ 1048576) (d : Nat) : ∀ (k i : Nat), i + d = x0.length → d < k →
    spec_AddState.l0 k x0 x1 (addL x0 x1 i) (i : Int) = some (addL x0 x1 x0.length, true) := by
  induction d with
  | zero =>
    intro k i h hk
    obtain ⟨k, rfl⟩ : ∃ m, k = m + 1 := ⟨k - 1, by omega⟩
    obtain rfl : i = x0.length := by omega
    rw [spec_AddState.l0, if_neg (by omega)]
  | succ d ih =>
    intro k i h hk
    obtain ⟨k, rfl⟩ : ∃ m, k = m + 1 := ⟨k - 1, by omega⟩
    rw [spec_AddState.l0, if_pos (by omega), if_pos (by omega), if_pos (by omega), spec_clamp _ 500 (by omega) (by omega), Option.bind_some, if_pos (by rw [addL_len]; omega), w64 (i := (i : Int) + 1) (by omega) (by omega), show ((i : Int) + 1) = ((i + 1 : Nat) : Int) by omega]
    have := ih k (i + 1) (by omega) (by omega)
    rw [addL_succ] at this
    exact this
theorem impl_add_from (x0 x1 : List Int) (hab : x0.length = x1.length) (hl : x0.length ≤ 1048576) (d : Nat) : ∀ (k i : Nat), i + d = x0.length → d < k →
    impl_AddState.l0 k x1 (addL x0 x1 i) x0 (x0.length : Int) (i : Int) = some (addL x0 x1 x0.length, true) := by
  induction d with
  | zero =>
    intro k i h hk
    obtain ⟨k, rfl⟩ : ∃ m, k = m + 1 := ⟨k - 1, by omega⟩
    obtain rfl : i = x0.length := by omega
    rw [impl_AddState.l0, if_neg (by omega)]
  | succ d ih =>
    intro k i h hk
    obtain ⟨k, rfl⟩ : ∃ m, k = m + 1 := ⟨k - 1, by omega⟩
    rw [impl_AddState.l0, if_pos (by omega), if_pos (by omega), if_pos (by omega), if_pos (by omega), impl_clamp _ 500 (by omega) (by omega), Option.bind_some, if_pos (by rw [addL_len]; omega), w64 (i := (i : Int) + 1) (by omega) (by omega), show ((i : Int) + 1) = ((i + 1 : Nat) : Int) by omega]
    have := ih k (i + 1) (by omega) (by omega)
    rw [addL_succ] at this
    exact this
theorem spec_add (x y : List Int) (hl : x.length ≤ 1048576) (hl' : y.length ≤ 1048576) (k : Nat) (hk : x.length + y.length + 5 < k) : spec_AddState.f k x y = some (addOf x y) := by
  obtain ⟨k, rfl⟩ : ∃ m, k = m + 1 := ⟨k - 1, by omega⟩
  unfold spec_AddState.f
  rw [Option.bind_some]
  by_cases h1 : x.length = y.length
  · rw [if_pos (by omega)]
    by_cases h2 : x.length ≤ 8
    · rw [if_neg (by omega), all_tells _ _ x (by omega) _ (by omega), Option.bind_some, within_def]
      by_cases h3 : withinB x = true
      · rw [if_pos h3, all_tells _ _ y (by omega) _ (by omega), Option.bind_some, within_def, spec_AddState.j0]
        by_cases h4 : withinB y = true
        · rw [if_neg (by rw [h4]; simp), addOf_yes x y ⟨h1, h2, h3, h4⟩]
          exact spec_add_from x y h1 hl x.length k 0 (by omega) (by omega)
        · rw [if_pos (by simpa using h4), addOf_no x y (fun h => h4 h.2.2.2)]
      · rw [if_neg h3, spec_AddState.j0, if_pos rfl, addOf_no x y (fun h => h3 h.2.2.1)]
    · rw [if_pos (by omega), spec_AddState.j0, if_pos rfl, addOf_no x y (fun h => h2 h.2.1)]
  · rw [if_neg (by omega), spec_AddState.j0, if_pos rfl, addOf_no x y (fun h => h1 h.1)]
theorem impl_add (x y : List Int) (hl : x.length ≤ 1048576) (hl' : y.length ≤ 1048576) (k : Nat) (hk : x.length + y.length + 5 < k) : impl_AddState.f k x y = some (addOf x y) := by
  obtain ⟨k, rfl⟩ : ∃ m, k = m + 1 := ⟨k - 1, by omega⟩
  unfold impl_AddState.f impl_allIn.f
  rw [within_def x, within_def y]
  by_cases h1 : x.length = y.length
  · rw [if_pos (by omega)]
    by_cases h2 : x.length ≤ 8
    · rw [if_neg (by omega), Option.bind_some]
      by_cases h3 : withinB x = true
      · rw [if_pos h3, Option.bind_some, impl_AddState.j0]
        by_cases h4 : withinB y = true
        · rw [if_neg (by rw [h4]; simp), addOf_yes x y ⟨h1, h2, h3, h4⟩]
          exact impl_add_from x y h1 hl x.length k 0 (by omega) (by omega)
        · rw [if_pos (by simpa using h4), addOf_no x y (fun h => h4 h.2.2.2)]
      · rw [if_neg h3, impl_AddState.j0, if_pos rfl, addOf_no x y (fun h => h3 h.2.2.1)]
    · rw [if_pos (by omega), impl_AddState.j0, if_pos rfl, addOf_no x y (fun h => h2 h.2.1)]
  · rw [if_neg (by omega), impl_AddState.j0, if_pos rfl, addOf_no x y (fun h => h1 h.1)]

theorem and_small (m : Nat) (hm : m < 9223372036854775808) (x : Int) : 0 ≤ Go.bits .and .i64 x (m : Int) ∧ Go.bits .and .i64 x (m : Int) ≤ (m : Int) := by
  simp only [Go.bits, BitVec.toNat_and]
  have h1 : (BitVec.ofInt IntKind.i64.bits x).toNat &&& (BitVec.ofInt IntKind.i64.bits (m : Int)).toNat ≤ m := by
    refine Nat.le_trans Nat.and_le_right ?_
    rw [BitVec.ofInt_natCast, BitVec.toNat_ofNat]
    exact Nat.mod_le _ _
  generalize (BitVec.ofInt IntKind.i64.bits x).toNat &&& (BitVec.ofInt IntKind.i64.bits (m : Int)).toNat = y at h1
  rw [IntKind.wrap_i64]
  omega
/-- A cursor's place. -/
def Cu (b : List Int) (i : Int) : Prop := 0 ≤ i ∧ i ≤ (b.length : Int) ∧ b.length ≤ 1048576
theorem byte_tells (b : List Int) (i h : Int) (hc : Cu b i) : ∃ v i' h', spec_l01Byte.f b i h = some (v, i', h') ∧ 0 ≤ v ∧ v ≤ 255 ∧ Cu b i' := by
  obtain ⟨h0, h1, h2⟩ := hc
  unfold spec_l01Byte.f
  by_cases hl : i < (b.length : Int)
  · rw [if_pos hl, if_pos h0, w64 (i := i + 1) (by omega) (by omega)]
    exact ⟨_, _, _, rfl, (and_small 255 (by decide) _).1, (and_small 255 (by decide) _).2, by omega, by omega, h2⟩
  · rw [if_neg hl]
    exact ⟨_, _, _, rfl, (and_small 255 (by decide) _).1, (and_small 255 (by decide) _).2, h0, h1, h2⟩
theorem below_tells (b : List Int) (i h : Int) (hc : Cu b i) (n : Int) (hn : 0 < n) (hn2 : n ≤ 4294967296) : ∃ v i' h', spec_l01Below.f b i h n = some (v, i', h') ∧ 0 ≤ v ∧ v < n ∧ Cu b i' := by
  unfold spec_l01Below.f
  rw [if_neg (by omega)]
  obtain ⟨v, i', h', e, v0, v1, hc'⟩ := byte_tells b i h hc
  by_cases h256 : n ≤ 256
  · rw [if_pos h256, e]
    simp only [Option.bind_some]
    rw [if_neg (by omega), Int.tmod_eq_emod_of_nonneg v0]
    exact ⟨_, _, _, rfl, Int.emod_nonneg _ (by omega), Int.emod_lt_of_pos _ hn, hc'⟩
  · obtain ⟨v2, i2, h2, e2, v20, v21, hc2⟩ := byte_tells b i' h' hc'
    obtain ⟨v3, i3, h3, e3, v30, v31, hc3⟩ := byte_tells b i2 h2 hc2
    obtain ⟨v4, i4, h4, e4, v40, v41, hc4⟩ := byte_tells b i3 h3 hc3
    rw [if_neg h256, e]
    simp only [Option.bind_some, e2, e3, e4]
    rw [if_neg (by omega), w64 (i := v * 16777216) (by omega) (by omega), w64 (i := v2 * 65536) (by omega) (by omega), w64 (i := v3 * 256) (by omega) (by omega), w64 (i := v * 16777216 + v2 * 65536) (by omega) (by omega), w64 (i := v * 16777216 + v2 * 65536 + v3 * 256) (by omega) (by omega), w64 (by omega) (by omega), Int.tmod_eq_emod_of_nonneg (by omega)]
    exact ⟨_, _, _, rfl, Int.emod_nonneg _ (by omega), Int.emod_lt_of_pos _ hn, hc4⟩
/-- a number of at most 0: nothing is drawn -/
theorem below_none (b : List Int) (i h : Int) (n : Int) (hn : n ≤ 0) : spec_l01Below.f b i h n = some (0, i, h) := by
  unfold spec_l01Below.f
  rw [if_pos hn]

theorem pick_tells (b : List Int) (i h : Int) (hc : Cu b i) (l : List Int) (hl : 0 < l.length) (hl2 : l.length ≤ 1000) : ∃ v i' h', spec_l01PickInt.f b i h l = some (v, i', h') ∧ v ∈ l ∧ Cu b i' := by
  obtain ⟨v, i', h', e, v0, v1, hc'⟩ := below_tells b i h hc (l.length : Int) (by omega) (by omega)
  unfold spec_l01PickInt.f
  rw [e, Option.bind_some, if_pos v0, if_pos v1]
  refine ⟨_, _, _, rfl, ?_, hc'⟩
  obtain ⟨m, rfl⟩ := Int.eq_ofNat_of_zero_le v0
  rw [rd_get l m (by omega)]
  exact List.getElem_mem _

theorem once_tells (b : List Int) (i h : Int) (hc : Cu b i) (n : Int) (hn : 0 < n) (hn2 : n ≤ 4294967296) : ∃ v i' h', spec_l01Once.f b i h n = some (v, i', h') ∧ Cu b i' := by
  obtain ⟨v, i', h', e, v0, v1, hc'⟩ := below_tells b i h hc n hn hn2
  unfold spec_l01Once.f
  rw [e, Option.bind_some]
  exact ⟨_, _, _, rfl, hc'⟩

theorem x17_from (b : List Int) (n : Nat) (hn : n ≤ 100000) (h1 : 1 ≤ n) (d : Nat) : ∀ (j : Nat) (acc : List Int) (i h : Int), j + d = n → acc.length = j → Cu b i → (∀ z ∈ acc, -1001 ≤ z ∧ z ≤ 1001) →
    ∃ r i' h', (∀ k', d < k' → spec_l17X.l0 k' (n : Int) acc (j : Int) b i h = some (r, i', h')) ∧ r.length = n ∧ (∀ z ∈ r, -1001 ≤ z ∧ z ≤ 1001) ∧ Cu b i' := by
  induction d with
  | zero =>
    intro j acc i h hj ha hc hz
    obtain ⟨v, i1, hh1, e, hc1⟩ := once_tells b i h hc 20 (by omega) (by omega)
    cases v with
    | true =>
      obtain ⟨v, i2, hh2, e2, hv, hc2⟩ := pick_tells b i1 hh1 hc1 [1000, 1001, (-1001)] (by simp) (by simp)
      refine ⟨acc.set 0 v, i2, hh2, fun k' hk' => ?_, by simp; omega, fun z hz1 => ?_, hc2⟩
      · obtain ⟨k', rfl⟩ : ∃ m, k' = m + 1 := ⟨k' - 1, by omega⟩
        rw [spec_l17X.l0, if_neg (by omega), e, Option.bind_some, if_pos rfl, e2, Option.bind_some, if_pos (by omega)]; rfl
      · rcases List.mem_or_eq_of_mem_set hz1 with h | h
        · exact hz z h
        · subst h; simp at hv; omega
    | false =>
      refine ⟨acc, i1, hh1, fun k' hk' => ?_, by omega, hz, hc1⟩
      obtain ⟨k', rfl⟩ : ∃ m, k' = m + 1 := ⟨k' - 1, by omega⟩
      rw [spec_l17X.l0, if_neg (by omega), e, Option.bind_some, if_neg (by simp)]
  | succ d ih =>
    intro j acc i h hj ha hc hz
    obtain ⟨v, i1, hh1, e, v0, v1, hc1⟩ := below_tells b i h hc 1001 (by omega) (by omega)
    obtain ⟨r, i', h', hr, hl, hz', hc'⟩ := ih (j + 1) (acc ++ [v - 500]) i1 hh1 (by omega) (by simp; omega) hc1 (fun z hz1 => by
      rcases List.mem_append.1 hz1 with h | h
      · exact hz z h
      · rw [List.mem_singleton.1 h]; omega)
    refine ⟨r, i', h', fun k' hk' => ?_, hl, hz', hc'⟩
    obtain ⟨k', rfl⟩ : ∃ m, k' = m + 1 := ⟨k' - 1, by omega⟩
    rw [spec_l17X.l0, if_pos (by omega), e, Option.bind_some, if_pos (by omega), w64 (i := v - 500) (by omega) (by omega), w64 (by omega) (by omega), show ((j : Int) + 1) = ((j + 1 : Nat) : Int) by omega]
    exact hr k' (by omega)
theorem x17_tells (b : List Int) (i h : Int) (hc : Cu b i) (n : Int) (h0 : 1 ≤ n) (hn : n ≤ 100000) : ∃ r i' h', (∀ k, n.toNat < k → spec_l17X.f k b i h n = some (r, i', h')) ∧ (r.length : Int) = n ∧ (∀ z ∈ r, -1001 ≤ z ∧ z ≤ 1001) ∧ Cu b i' := by
  obtain ⟨m, rfl⟩ := Int.eq_ofNat_of_zero_le (by omega : 0 ≤ n)
  obtain ⟨r, i', h', hr, hl, hz, hc'⟩ := x17_from b m (by omega) (by omega) m 0 [] i h (by omega) rfl hc (fun z hz => by cases hz)
  refine ⟨r, i', h', fun k hk => ?_, by omega, hz, hc'⟩
  unfold spec_l17X.f
  exact hr k (by omega)

theorem same_from (a b : List Int) (hl : a.length ≤ 9223372036854775806) (hab : a.length = b.length) (d : Nat) : ∀ (k i : Nat), i ≤ a.length → a.length - i = d → d < k →
    laws_sameInts.l0 k a b (i : Int) = some (decide (a.drop i = b.drop i)) := by
  induction d with
  | zero =>
    intro k i hi' hd hk
    obtain ⟨k, rfl⟩ : ∃ m, k = m + 1 := ⟨k - 1, by omega⟩
    rw [List.drop_of_length_le (by omega), List.drop_of_length_le (by omega)]
    simp only [laws_sameInts.l0]; rw [if_neg (by omega)]; simp
  | succ d ih =>
    intro k i hi' hd hk
    obtain ⟨k, rfl⟩ : ∃ m, k = m + 1 := ⟨k - 1, by omega⟩
    have hlt : i < a.length := by omega
    have hltb : i < b.length := by omega
    simp only [laws_sameInts.l0]
    rw [if_pos (by omega), if_pos (by omega), if_pos (by omega), rd_get a i hlt, rd_get b i hltb, List.drop_eq_getElem_cons hlt, List.drop_eq_getElem_cons hltb]
    by_cases h : a[i] = b[i]
    · rw [if_pos h, w64 (by omega) (by omega), show ((i : Int) + 1) = ((i + 1 : Nat) : Int) by omega, ih k (i + 1) (by omega) (by omega) (by omega)]
      congr 1
      rw [decide_eq_decide]
      simp only [h, List.cons.injEq, true_and]
    · rw [if_neg h, decide_eq_false (fun e => h (List.cons.inj e).1)]
/-- laws.sameInts: equal lists. -/
theorem same_tells (a b : List Int) (hl : a.length ≤ 9223372036854775806) (k : Nat) (hk : a.length < k) : laws_sameInts.f k a b = some (decide (a = b)) := by
  unfold laws_sameInts.f
  by_cases h : a.length = b.length
  · rw [if_pos (by omega)]
    have := same_from a b hl h a.length k 0 (by omega) (by omega) hk
    simpa using this
  · rw [if_neg (by omega), decide_eq_false]
    intro e; rw [e] at h; exact h rfl

theorem draw_add (c : List Int) (hc : c.length ≤ 1048576) : ∃ x y, (∀ k, 30 < k → spec_DrawAddState.f k c = some (x, y)) ∧ x.length ≤ 20 ∧ y.length ≤ 20 := by
  have hc0 : Cu c 0 := ⟨by omega, by omega, by omega⟩
  obtain ⟨n, i1, h1, e1, n0, n1, hc1⟩ := below_tells c 0 (spec_l01New.hash c) hc0 8 (by omega) (by omega)
  obtain ⟨x, i2, h2, e2, hx, _, hc2⟩ := x17_tells c i1 h1 hc1 (1 + n) (by omega) (by omega)
  obtain ⟨y, i3, h3, e3, hy, _, hc3⟩ := x17_tells c i2 h2 hc2 (1 + n) (by omega) (by omega)
  obtain ⟨v, i4, h4, e4, v0, v1, hc4⟩ := below_tells c i3 h3 hc3 20 (by omega) (by omega)
  by_cases g0 : v = 0
  · refine ⟨x, y ++ [1], fun k hk => ?_, by omega, by simp; omega⟩
    unfold spec_DrawAddState.f spec_l01New.f
    rw [Option.bind_some, e1, Option.bind_some, w64 (i := 1 + n) (by omega) (by omega), e2 k (by omega), Option.bind_some, e3 k (by omega), Option.bind_some, e4, Option.bind_some, if_pos g0, if_pos (by show y.length < _; omega)]
  · by_cases g1 : v = 1
    · refine ⟨List.replicate 9 0, List.replicate 9 0, fun k hk => ?_, by simp, by simp⟩
      unfold spec_DrawAddState.f spec_l01New.f
      rw [Option.bind_some, e1, Option.bind_some, w64 (i := 1 + n) (by omega) (by omega), e2 k (by omega), Option.bind_some, e3 k (by omega), Option.bind_some, e4, Option.bind_some, if_neg g0, if_pos g1, if_pos (by omega)]
    · refine ⟨x, y, fun k hk => ?_, by omega, by omega⟩
      unfold spec_DrawAddState.f spec_l01New.f
      rw [Option.bind_some, e1, Option.bind_some, w64 (i := 1 + n) (by omega) (by omega), e2 k (by omega), Option.bind_some, e3 k (by omega), Option.bind_some, e4, Option.bind_some, if_neg g0, if_neg g1]
theorem clamp_bd (x m : Int) (h : 0 ≤ m) : -m ≤ clampZ x m ∧ clampZ x m ≤ m := by
  unfold clampZ
  by_cases h1 : x > m
  · rw [if_pos h1]; omega
  · rw [if_neg h1]
    by_cases h2 : x < -m
    · rw [if_pos h2]; omega
    · rw [if_neg h2]; omega
theorem clamp_in (x m : Int) (h1 : -m ≤ x) (h2 : x ≤ m) : clampZ x m = x := by
  unfold clampZ; rw [if_neg (by omega), if_neg (by omega)]
theorem abs_le (s : Int) (h : (if s < 0 then -s else s) ≤ 500) : -500 ≤ s ∧ s ≤ 500 := by
  by_cases h1 : s < 0
  · rw [if_pos h1] at h; omega
  · rw [if_neg h1] at h; omega
theorem abs_tells (x : Int) (h1 : -9223372036854775807 ≤ x) (h2 : x ≤ 9223372036854775807) : laws_abs.f x = some (if x < 0 then -x else x) := by
  unfold laws_abs.f
  by_cases h : x < 0
  · rw [if_pos h, if_pos h, w64 (by omega) (by omega)]
  · rw [if_neg h, if_neg h]
theorem states_from (x y : List Int) (hab : x.length = y.length) (hx : withinB x = true) (hy : withinB y = true) (hl : x.length ≤ 20) (d : Nat) : ∀ (k i : Nat), i + d = x.length → d < k →
    laws_FnStates.l0 k x y (addL x y x.length) (i : Int) = some true := by
  induction d with
  | zero =>
    intro k i h hk
    obtain ⟨k, rfl⟩ : ∃ m, k = m + 1 := ⟨k - 1, by omega⟩
    rw [laws_FnStates.l0, if_neg (by rw [addL_len]; omega)]
  | succ d ih =>
    intro k i h hk
    obtain ⟨k, rfl⟩ : ∃ m, k = m + 1 := ⟨k - 1, by omega⟩
    have hxi : -1000 ≤ rd x (i : Int) ∧ rd x (i : Int) ≤ 1000 := by
      unfold withinB at hx
      simp only [List.all_eq_true, Bool.and_eq_true, decide_eq_true_eq] at hx
      rw [rd_get x i (by omega)]; exact hx _ (List.getElem_mem _)
    have hyi : -1000 ≤ rd y (i : Int) ∧ rd y (i : Int) ≤ 1000 := by
      unfold withinB at hy
      simp only [List.all_eq_true, Bool.and_eq_true, decide_eq_true_eq] at hy
      rw [rd_get y i (by omega)]; exact hy _ (List.getElem_mem _)
    have ha := addL_at x y x.length i (by omega)
    unfold addG at ha
    rw [w64 (by omega) (by omega)] at ha
    have hb := clamp_bd (rd x (i : Int) + rd y (i : Int)) 500 (by omega)
    have hin := clamp_in (rd x (i : Int) + rd y (i : Int)) 500
    rw [laws_FnStates.l0, if_pos (by rw [addL_len]; omega), if_pos (by omega), ha, abs_tells _ (by omega) (by omega), Option.bind_some, if_neg (by split <;> omega), if_pos (by omega), if_pos (by omega), w64 (i := rd x (i : Int) + rd y (i : Int)) (by omega) (by omega), abs_tells _ (by omega) (by omega), Option.bind_some, w64 (i := (i : Int) + 1) (by omega) (by omega), show ((i : Int) + 1) = ((i + 1 : Nat) : Int) by omega, ih k (i + 1) (by omega) (by omega)]
    by_cases hle : (if rd x (i : Int) + rd y (i : Int) < 0 then -(rd x (i : Int) + rd y (i : Int)) else rd x (i : Int) + rd y (i : Int)) ≤ 500
    · rw [if_pos hle, if_pos (hin (abs_le _ hle).1 (abs_le _ hle).2)]
    · rw [if_neg hle]
theorem FnStates : laws_FnStates.Pure := by
  intro c hm hs hw
  obtain ⟨k, hk⟩ : ∃ k : Nat, k = 100 := ⟨_, rfl⟩
  refine ⟨k, ?_⟩
  unfold laws_FnStates.f laws_big.f
  rw [Option.bind_some]
  by_cases hb : (c.length : Int) > 1048576
  · rw [decide_eq_true hb, if_pos rfl]
  · rw [decide_eq_false hb, if_neg (by simp)]
    obtain ⟨x, y, e, hx, hy⟩ := draw_add c (by omega)
    rw [e k (by omega), Option.bind_some, impl_add x y (by omega) (by omega) k (by omega), Option.bind_some, impl_add y x (by omega) (by omega) k (by omega), Option.bind_some, spec_add x y (by omega) (by omega) k (by omega), Option.bind_some]
    obtain ⟨j, rfl⟩ : ∃ j, k = j + 1 + 1 := ⟨k - 2, by omega⟩
    by_cases h : addOk x y
    · have h' : addOk y x := ⟨h.1.symm, by have := h.1; have := h.2.1; omega, h.2.2.2, h.2.2.1⟩
      rw [addOf_yes x y h, addOf_yes y x h', if_neg (by simp), if_neg (by simp), same_tells _ _ (by rw [addL_len]; omega) _ (by rw [addL_len]; omega), Option.bind_some, laws_FnStates.j0, if_neg (by rw [← h.1, addL_comm y x]; simp)]
      exact states_from x y h.1 h.2.2.1 h.2.2.2 (by omega) x.length _ 0 (by omega) (by omega)
    · have h' : ¬ addOk y x := fun g => h ⟨g.1.symm, by have := g.1; have := g.2.1; omega, g.2.2.2, g.2.2.1⟩
      rw [addOf_no x y h, addOf_no y x h', if_neg (by simp), if_neg (by simp), same_tells _ _ (by simp) _ (by simp), Option.bind_some, laws_FnStates.j0, if_neg (by simp), laws_FnStates.l0, if_neg (by simp)]

end Go.Proofs.Ytigplfheldfciaa.Pure
