/- The program's TakePage returns what the reference's TakePage returns, leaves its argument alone, and shares no memory, for all arguments. No conditions. -/
import Derived.Test.YtnkbadlppconjaaPFnExactTakePagex3
namespace Go.Proofs.Ytnkbadlppconjaa.Pure
open Go.RowKit Go.Proofs.Ytnkbadlppconjaa.PFnExactTakePage Go.Proofs.YtnkbadlppconjaaW.PrintWords Go.Proofs.YtnkbadlppconjaaW.PrintLast Go.Proofs.YtnkbadlppconjaaW.PrintMore
set_option linter.unusedVariables false
set_option linter.unusedSimpArgs false

theorem w64 {i : Int} (h0 : -9223372036854775808 ≤ i) (h : i ≤ 9223372036854775807) : wrap64 i = i := by unfold wrap64; omega
theorem rd_get (l : List Int) (i : Nat) (h : i < l.length) : rd l (i : Int) = l[i] := by simp [rd, List.getD_eq_getElem?_getD, h]


theorem to_from (l : List Int) (hl : l.length ≤ 9223372036854775806) (d : Nat) : ∀ (k i : Nat), i ≤ l.length → l.length - i = d → d < k →
    laws_toIntS.l0 k l (l.take i ++ List.replicate (l.length - i) 0) (i : Int) = some l := by
  induction d with
  | zero =>
    intro k i hi' hd hk
    obtain ⟨k, rfl⟩ : ∃ m, k = m + 1 := ⟨k - 1, by omega⟩
    simp only [laws_toIntS.l0]; rw [if_neg (by omega), List.take_of_length_le (by omega), hd]; simp
  | succ d ih =>
    intro k i hi' hd hk
    obtain ⟨k, rfl⟩ : ∃ m, k = m + 1 := ⟨k - 1, by omega⟩
    have hlt : i < l.length := by omega
    simp only [laws_toIntS.l0]
    rw [if_pos (by omega), if_pos (by omega), if_pos (by simp; omega), rd_get l i hlt, w64 (by omega) (by omega), show ((i : Int) + 1) = ((i + 1 : Nat) : Int) by omega]
    have e : (l.take i ++ List.replicate (l.length - i) (0 : Int)).set (i : Int).toNat l[i] = l.take (i + 1) ++ List.replicate (l.length - (i + 1)) 0 := by
      rw [Int.toNat_natCast, List.set_append_right _ _ (by simp; omega), show l.length - i = (l.length - (i + 1)) + 1 by omega, List.replicate_succ, List.length_take, Nat.min_eq_left (by omega), Nat.sub_self, List.set_cons_zero, List.take_succ_eq_append_getElem hlt, List.append_assoc]
      rfl
    rw [e]
    exact ih k (i + 1) (by omega) (by omega) (by omega)
/-- laws.toIntS: a copy. -/
theorem to_tells (l : List Int) (hl : l.length ≤ 35184372088832) (k : Nat) (hk : l.length < k) : laws_toIntS.f k l = some l := by
  unfold laws_toIntS.f
  rw [if_pos (by omega), if_pos (by simpa using hl), Int.toNat_natCast]
  have := to_from l (by omega) l.length k 0 (by omega) (by omega) hk
  simpa using this


theorem eq_from (a b : List Int) (hl : a.length ≤ 9223372036854775806) (hab : a.length = b.length) (d : Nat) : ∀ (k i : Nat), i ≤ a.length → a.length - i = d → d < k →
    laws_eqIntS.l0 k a b (i : Int) = some (decide (a.drop i = b.drop i)) := by
  induction d with
  | zero =>
    intro k i hi' hd hk
    obtain ⟨k, rfl⟩ : ∃ m, k = m + 1 := ⟨k - 1, by omega⟩
    rw [List.drop_of_length_le (by omega), List.drop_of_length_le (by omega)]
    simp only [laws_eqIntS.l0]; rw [if_neg (by omega)]; simp
  | succ d ih =>
    intro k i hi' hd hk
    obtain ⟨k, rfl⟩ : ∃ m, k = m + 1 := ⟨k - 1, by omega⟩
    have hlt : i < a.length := by omega
    have hltb : i < b.length := by omega
    simp only [laws_eqIntS.l0]
    rw [if_pos (by omega), if_pos (by omega), if_pos (by omega), rd_get a i hlt, rd_get b i hltb, List.drop_eq_getElem_cons hlt, List.drop_eq_getElem_cons hltb]
    by_cases h : a[i] = b[i]
    · rw [if_pos h, w64 (by omega) (by omega), show ((i : Int) + 1) = ((i + 1 : Nat) : Int) by omega, ih k (i + 1) (by omega) (by omega) (by omega)]
      congr 1
      rw [decide_eq_decide]
      simp only [h, List.cons.injEq, true_and]
    · rw [if_neg h, decide_eq_false (fun e => h (List.cons.inj e).1)]
/-- laws.eqIntS: equal lists. -/
theorem eq_tells (a b : List Int) (hl : a.length ≤ 9223372036854775806) (k : Nat) (hk : a.length < k) : laws_eqIntS.f k a b = some (decide (a = b)) := by
  unfold laws_eqIntS.f
  by_cases h : a.length = b.length
  · rw [if_pos (by omega)]
    have := eq_from a b hl h a.length k 0 (by omega) (by omega) hk
    simpa using this
  · rw [if_neg (by omega), decide_eq_false]
    intro e; rw [e] at h; exact h rfl


def marks (z : Int) (n : Nat) : List Int := (List.range n).map fun (j : Nat) => z + (j : Int)
theorem marks_length (z : Int) (n : Nat) : (marks z n).length = n := by simp [marks]

theorem mark_from (n : Nat) (z : Int) (hz : 0 ≤ z) (hn : z + (n : Int) ≤ 9223372036854775806) (l : List Int) (hl : l.length = n) (d : Nat) : ∀ (k i : Nat), i ≤ n → n - i = d → d < k →
    laws_markIntS.l0 k (marks z i ++ l.drop i) (z + (i : Int)) (i : Int) = some (z + (n : Int), marks z n) := by
  induction d with
  | zero =>
    intro k i hi' hd hk
    obtain ⟨k, rfl⟩ : ∃ m, k = m + 1 := ⟨k - 1, by omega⟩
    obtain rfl : i = n := by omega
    simp only [laws_markIntS.l0]; rw [List.drop_of_length_le (by omega), List.append_nil, if_neg (by rw [marks_length]; omega)]
  | succ d ih =>
    intro k i hi' hd hk
    obtain ⟨k, rfl⟩ : ∃ m, k = m + 1 := ⟨k - 1, by omega⟩
    simp only [laws_markIntS.l0]
    rw [if_pos (by simp [marks_length]; omega), if_pos (by omega), w64 (i := z + (i : Int) + 1) (by omega) (by omega), w64 (i := (i : Int) + 1) (by omega) (by omega), show (z + (i : Int) + 1) = z + ((i + 1 : Nat) : Int) by omega, show ((i : Int) + 1) = ((i + 1 : Nat) : Int) by omega]
    have e : (marks z i ++ l.drop i).set (i : Int).toNat (z + (i : Int)) = marks z (i + 1) ++ l.drop (i + 1) := by
      rw [Int.toNat_natCast, List.set_append_right _ _ (by simp [marks_length]), marks_length, Nat.sub_self, List.drop_eq_getElem_cons (by omega), List.set_cons_zero]
      simp [marks, List.range_succ]
    rw [e]
    exact ih k (i + 1) (by omega) (by omega) (by omega)
/-- laws.markIntS: the numbers from z on. -/
theorem mark_tells (l : List Int) (z : Int) (hz : 0 ≤ z) (hn : z + (l.length : Int) ≤ 9223372036854775806) (k : Nat) (hk : l.length < k) : laws_markIntS.f k l z = some (z + (l.length : Int), marks z l.length) := by
  unfold laws_markIntS.f
  have := mark_from l.length z hz hn l rfl l.length k 0 (by omega) (by omega) hk
  simpa [marks] using this

theorem held_from (n : Nat) (z : Int) (hz : 0 ≤ z) (hn : z + (n : Int) ≤ 9223372036854775806) (d : Nat) : ∀ (k i : Nat), i ≤ n → n - i = d → d < k →
    laws_heldIntS.l0 k (marks z n) (z + (i : Int)) (i : Int) = some (z + (n : Int)) := by
  induction d with
  | zero =>
    intro k i hi' hd hk
    obtain ⟨k, rfl⟩ : ∃ m, k = m + 1 := ⟨k - 1, by omega⟩
    obtain rfl : i = n := by omega
    simp only [laws_heldIntS.l0]; rw [if_neg (by rw [marks_length]; omega)]
  | succ d ih =>
    intro k i hi' hd hk
    obtain ⟨k, rfl⟩ : ∃ m, k = m + 1 := ⟨k - 1, by omega⟩
    simp only [laws_heldIntS.l0]
    rw [if_pos (by rw [marks_length]; omega), if_pos (by omega), rd_get _ i (by rw [marks_length]; omega), if_pos (by simp [marks]), w64 (i := z + (i : Int) + 1) (by omega) (by omega), w64 (i := (i : Int) + 1) (by omega) (by omega), show (z + (i : Int) + 1) = z + ((i + 1 : Nat) : Int) by omega, show ((i : Int) + 1) = ((i + 1 : Nat) : Int) by omega]
    exact ih k (i + 1) (by omega) (by omega) (by omega)
/-- laws.heldIntS of what laws.markIntS left. -/
theorem held_tells (n : Nat) (z : Int) (hz : 0 ≤ z) (hn : z + (n : Int) ≤ 9223372036854775806) (k : Nat) (hk : n < k) : laws_heldIntS.f k (marks z n) z = some (z + (n : Int)) := by
  unfold laws_heldIntS.f
  have := held_from n z hz hn n k 0 (by omega) (by omega) hk
  simpa using this

theorem all_from (lo hi : Int) (l : List Int) (hl : l.length ≤ 9223372036854775806) (d : Nat) : ∀ (k i : Nat), i ≤ l.length → l.length - i = d → d < k →
    spec_l05All.l0 k l lo hi (i : Int) = some ((l.drop i).all fun x => decide (lo ≤ x) && decide (x ≤ hi)) := by
  induction d with
  | zero =>
    intro k i hi' hd hk
    obtain ⟨k, rfl⟩ : ∃ m, k = m + 1 := ⟨k - 1, by omega⟩
    rw [List.drop_of_length_le (by omega)]
    simp only [spec_l05All.l0]; rw [if_neg (by omega)]; rfl
  | succ d ih =>
    intro k i hi' hd hk
    obtain ⟨k, rfl⟩ : ∃ m, k = m + 1 := ⟨k - 1, by omega⟩
    have hlt : i < l.length := by omega
    simp only [spec_l05All.l0]
    rw [if_pos (by omega), if_pos (by omega), rd_get l i hlt, List.drop_eq_getElem_cons hlt, List.all_cons]
    unfold spec_l01In.f
    by_cases h1 : l[i] ≥ lo
    · rw [if_pos h1]
      simp only [Option.bind_some]
      by_cases h2 : l[i] ≤ hi
      · rw [decide_eq_true h2, if_pos rfl, w64 (by omega) (by omega), show ((i : Int) + 1) = ((i + 1 : Nat) : Int) by omega, ih k (i + 1) (by omega) (by omega) (by omega)]
        simp [h1]
      · rw [decide_eq_false h2]; simp
    · rw [if_neg h1]; simp only [Option.bind_some]; rw [decide_eq_false h1]; simp
/-- spec.l05All: all within. -/
theorem all_tells (lo hi : Int) (l : List Int) (hl : l.length ≤ 9223372036854775806) (k : Nat) (hk : l.length < k) : spec_l05All.f k l lo hi = some (l.all fun x => decide (lo ≤ x) && decide (x ≤ hi)) := by
  unfold spec_l05All.f
  have := all_from lo hi l hl l.length k 0 (by omega) (by omega) hk
  rw [List.drop_zero] at this
  exact this


def poolB (l : List Int) : Bool := decide (l.length ≤ 16) && l.all fun x => decide (0 ≤ x) && decide (x ≤ 20)
theorem spec_pool (l : List Int) (hl : l.length ≤ 9223372036854775806) (k : Nat) (hk : l.length < k) : spec_PoolOk.f k l = some (poolB l) := by
  unfold spec_PoolOk.f poolB
  by_cases h : l.length ≤ 16
  · rw [if_pos (by omega), all_tells 0 20 l hl k hk]; simp [h]
  · rw [if_neg (by omega)]; simp [h]
theorem impl_pool (l : List Int) : impl_PoolOk.f l = some (poolB l) := by
  unfold impl_PoolOk.f poolB impl_allIn.f
  by_cases h : l.length ≤ 16
  · rw [if_pos (by omega)]; simp [h]
  · rw [if_neg (by omega)]; simp [h]

/-- Where the first number x stands from place i on; -1. -/
def firstFrom (x : Int) (l : List Int) : Nat → Nat → Int
  | _, 0 => -1
  | i, d + 1 => if x = rd l (i : Int) then (i : Int) else firstFrom x l (i + 1) d
theorem first_lt (x : Int) (l : List Int) (d : Nat) : ∀ i, i + d = l.length → firstFrom x l i d < (l.length : Int) ∧ -1 ≤ firstFrom x l i d := by
  induction d with
  | zero => intro i h; unfold firstFrom; omega
  | succ d ih => intro i h; unfold firstFrom; have := ih (i + 1) (by omega); split <;> omega
theorem index_from (x : Int) (l : List Int) (hl : l.length ≤ 1048576) (d : Nat) : ∀ (k i : Nat), i + d = l.length → d < k →
    slices_Index_int_int.l0 k l x (l.length : Int) (i : Int) = some (firstFrom x l i d) := by
  induction d with
  | zero =>
    intro k i h hk
    obtain ⟨k, rfl⟩ : ∃ m, k = m + 1 := ⟨k - 1, by omega⟩
    simp only [slices_Index_int_int.l0, firstFrom]; rw [if_neg (by omega)]
  | succ d ih =>
    intro k i h hk
    obtain ⟨k, rfl⟩ : ∃ m, k = m + 1 := ⟨k - 1, by omega⟩
    simp only [slices_Index_int_int.l0, firstFrom]
    rw [if_pos (by omega), if_pos (by omega), if_pos (by omega), w64 (by omega) (by omega), show ((i : Int) + 1) = ((i + 1 : Nat) : Int) by omega, ih k (i + 1) (by omega) (by omega)]
    split <;> rfl
theorem index_tells (x : Int) (l : List Int) (hl : l.length ≤ 1048576) (k : Nat) (hk : l.length < k) : slices_Index_int_int.f k l x = some (firstFrom x l 0 l.length) := by
  unfold slices_Index_int_int.f
  exact index_from x l hl l.length k 0 (by omega) hk
def takenAt (l : List Int) (r : Int) : List Int × Int × Bool := if r < 0 then ([], 0, false) else (l.set r.toNat 1, r, true)
def taken (l : List Int) : List Int × Int × Bool := if poolB l = true then takenAt l (firstFrom 0 l 0 l.length) else ([], 0, false)
theorem taken_len (l : List Int) : (taken l).1.length ≤ l.length := by
  unfold taken takenAt; split
  · split <;> simp
  · simp
theorem spec_taken_from (l : List Int) (hp : poolB l = true) (hl : l.length ≤ 1048576) (d : Nat) : ∀ (k i : Nat), i + d = l.length → 2 * d + l.length + 2 < k →
    spec_TakePage.l0 k l l (i : Int) = some (takenAt l (firstFrom 0 l i d)) := by
  induction d with
  | zero =>
    intro k i h hk
    obtain ⟨k, rfl⟩ : ∃ m, k = m + 1 + 1 := ⟨k - 2, by omega⟩
    simp only [spec_TakePage.l0, firstFrom, takenAt]; rw [if_neg (by omega)]; simp [spec_TakePage.j1]
  | succ d ih =>
    intro k i h hk
    obtain ⟨k, rfl⟩ : ∃ m, k = m + 1 + 1 := ⟨k - 2, by omega⟩
    simp only [spec_TakePage.l0, firstFrom]
    rw [if_pos (by omega), spec_pool l (by omega) _ (by omega), hp]
    simp only [Option.bind_some, spec_TakePage.j1, if_true]
    rw [if_pos (by omega), if_pos (by omega), w64 (i := (i : Int) + 1) (by omega) (by omega), show ((i : Int) + 1) = ((i + 1 : Nat) : Int) by omega, ih k (i + 1) (by omega) (by omega)]
    by_cases e : rd l (i : Int) = 0
    · rw [if_pos e, if_pos e.symm, if_pos (by omega)]; unfold takenAt; rw [if_neg (by omega)]
    · rw [if_neg e, if_neg (fun h => e h.symm)]
theorem spec_taken (l : List Int) (hl : l.length ≤ 1048576) (k : Nat) (hk : 3 * l.length + 6 < k) : spec_TakePage.f k l = some (taken l) := by
  unfold spec_TakePage.f taken
  simp only [Option.bind_some, List.nil_append, List.length_nil, Nat.zero_add]
  rw [if_pos (by omega)]
  cases hp : poolB l with
  | true => rw [if_pos rfl]; exact spec_taken_from l hp hl l.length k 0 (by omega) (by omega)
  | false =>
    obtain ⟨k, rfl⟩ : ∃ m, k = m + 1 + 1 := ⟨k - 2, by omega⟩
    simp only [spec_TakePage.l0]
    split
    · rw [spec_pool l (by omega) _ (by omega), hp]; simp [spec_TakePage.j1]
    · simp [spec_TakePage.j1]
theorem impl_taken (l : List Int) (hl : l.length ≤ 1048576) (k : Nat) (hk : l.length < k) : impl_TakePage.f k l = some (taken l) := by
  unfold impl_TakePage.f taken slices_Clone_int_int.f
  have hr := first_lt 0 l l.length 0 (by omega)
  rw [index_tells 0 l hl k hk, impl_pool]
  generalize firstFrom 0 l 0 l.length = r at hr
  simp only [Option.bind_some]
  cases hp : poolB l with
  | true =>
    simp only [if_true]
    unfold takenAt
    by_cases h : r < 0
    · rw [if_pos h, if_pos h]
    · rw [if_neg h, if_neg h, if_pos (by omega)]
      simp only [Option.bind_some]
      rw [if_pos (by omega), if_pos (by omega)]
  | false => simp

theorem FnExactTakePage : laws_FnExactTakePage.Pure := by
  intro l hm hs hw
  refine ⟨3 * l.length + 50, ?_⟩
  unfold laws_FnExactTakePage.f
  by_cases hb : (l.length : Int) > 1048576
  · rw [if_pos hb]
  · rw [if_neg hb]
    obtain ⟨C, hC⟩ : ∃ C, C = taken l := ⟨_, rfl⟩
    have hc : C.1.length ≤ l.length := by rw [hC]; exact taken_len l
    have g1 : ∀ k, 3 * l.length + 6 < k → spec_TakePage.f k l = some C := fun k hk => by rw [hC]; exact spec_taken l (by omega) k hk
    have g2 : ∀ k, l.length < k → impl_TakePage.f k l = some C := fun k hk => by rw [hC]; exact impl_taken l (by omega) k hk
    clear hC
    have hm1 := mark_tells l 1 (by omega) (by omega)
    have hm2 := mark_tells C.1 1 (by omega) (by omega)
    have hh := held_tells C.1.length 1 (by omega) (by omega)
    have i1 : ¬ (1 + (l.length : Int) < 0) := by omega
    have i2 : ¬ (1 + (C.1.length : Int) < 0) := by omega
    simp (disch := omega) only [to_tells, eq_tells, g1, g2, Option.bind_some, decide_true, if_true, bne_self_eq_false]
    simp only [laws_FnExactTakePage.j0, Bool.false_eq_true, if_false]
    simp (disch := omega) only [to_tells, eq_tells, hm1, i1, Option.bind_some, decide_true, if_true, if_false, bne_self_eq_false]
    simp only [laws_FnExactTakePage.j1, Bool.false_eq_true, if_false]
    simp (disch := omega) only [to_tells, eq_tells, g2, hm2, hh, i2, Option.bind_some, decide_true, if_true, if_false, bne_self_eq_false]
    simp only [laws_FnExactTakePage.j2, Bool.false_eq_true, if_false]
    simp (disch := omega) only [hh, i2, Option.bind_some, if_true, if_false]

end Go.Proofs.Ytnkbadlppconjaa.Pure
