/- A drawn vector that is cut into heads by the program's Heads is all of it, in order, in as many parts as there are heads; the reference says so too. No conditions. -/
import Derived.Test.YtnkbadlppconjaaPFnHeadsx2
namespace Go.Proofs.Ytnkbadlppconjaa.Pure
open Go.RowKit Go.Proofs.Ytnkbadlppconjaa.PFnHeads Go.Proofs.YtnkbadlppconjaaW.PrintWords Go.Proofs.YtnkbadlppconjaaW.PrintLast Go.Proofs.YtnkbadlppconjaaW.PrintMore
set_option linter.unusedVariables false
set_option linter.unusedSimpArgs false

theorem w64 {i : Int} (h0 : -9223372036854775808 ≤ i) (h : i ≤ 9223372036854775807) : wrap64 i = i := by unfold wrap64; omega
theorem rd_get (l : List Int) (i : Nat) (h : i < l.length) : rd l (i : Int) = l[i] := by simp [rd, List.getD_eq_getElem?_getD, h]


theorem and_small (m : Nat) (hm : m < 9223372036854775808) (x : Int) : 0 ≤ Go.bits .and .i64 x (m : Int) ∧ Go.bits .and .i64 x (m : Int) ≤ (m : Int) := by
  simp only [Go.bits, BitVec.toNat_and]
  have h1 : (BitVec.ofInt IntKind.i64.bits x).toNat &&& (BitVec.ofInt IntKind.i64.bits (m : Int)).toNat ≤ m := by
    refine Nat.le_trans Nat.and_le_right ?_
    rw [BitVec.ofInt_natCast, BitVec.toNat_ofNat]
    exact Nat.mod_le _ _
  generalize (BitVec.ofInt IntKind.i64.bits x).toNat &&& (BitVec.ofInt IntKind.i64.bits (m : Int)).toNat = y at h1
  rw [IntKind.wrap_i64]
  omega
/-- A cursor's place. -/
def Cu (b : List Int) (i : Int) : Prop := 0 ≤ i ∧ i ≤ (b.length : Int) ∧ b.length ≤ 1048576
theorem byte_tells (b : List Int) (i h : Int) (hc : Cu b i) : ∃ v i' h', spec_l01Byte.f b i h = some (v, i', h') ∧ 0 ≤ v ∧ v ≤ 255 ∧ Cu b i' := by
  obtain ⟨h0, h1, h2⟩ := hc
  unfold spec_l01Byte.f
  by_cases hl : i < (b.length : Int)
  · rw [if_pos hl, if_pos h0, w64 (i := i + 1) (by omega) (by omega)]
    exact ⟨_, _, _, rfl, (and_small 255 (by decide) _).1, (and_small 255 (by decide) _).2, by omega, by omega, h2⟩
  · rw [if_neg hl]
    exact ⟨_, _, _, rfl, (and_small 255 (by decide) _).1, (and_small 255 (by decide) _).2, h0, h1, h2⟩
theorem below_tells (b : List Int) (i h : Int) (hc : Cu b i) (n : Int) (hn : 0 < n) (hn2 : n ≤ 4294967296) : ∃ v i' h', spec_l01Below.f b i h n = some (v, i', h') ∧ 0 ≤ v ∧ v < n ∧ Cu b i' := by
  unfold spec_l01Below.f
  rw [if_neg (by omega)]
  obtain ⟨v, i', h', e, v0, v1, hc'⟩ := byte_tells b i h hc
  by_cases h256 : n ≤ 256
  · rw [if_pos h256, e]
    simp only [Option.bind_some]
    rw [if_neg (by omega), Int.tmod_eq_emod_of_nonneg v0]
    exact ⟨_, _, _, rfl, Int.emod_nonneg _ (by omega), Int.emod_lt_of_pos _ hn, hc'⟩
  · obtain ⟨v2, i2, h2, e2, v20, v21, hc2⟩ := byte_tells b i' h' hc'
    obtain ⟨v3, i3, h3, e3, v30, v31, hc3⟩ := byte_tells b i2 h2 hc2
    obtain ⟨v4, i4, h4, e4, v40, v41, hc4⟩ := byte_tells b i3 h3 hc3
    rw [if_neg h256, e]
    simp only [Option.bind_some, e2, e3, e4]
    rw [if_neg (by omega), w64 (i := v * 16777216) (by omega) (by omega), w64 (i := v2 * 65536) (by omega) (by omega), w64 (i := v3 * 256) (by omega) (by omega), w64 (i := v * 16777216 + v2 * 65536) (by omega) (by omega), w64 (i := v * 16777216 + v2 * 65536 + v3 * 256) (by omega) (by omega), w64 (by omega) (by omega), Int.tmod_eq_emod_of_nonneg (by omega)]
    exact ⟨_, _, _, rfl, Int.emod_nonneg _ (by omega), Int.emod_lt_of_pos _ hn, hc4⟩
/-- a number of at most 0: nothing is drawn -/
theorem below_none (b : List Int) (i h : Int) (n : Int) (hn : n ≤ 0) : spec_l01Below.f b i h n = some (0, i, h) := by
  unfold spec_l01Below.f
  rw [if_pos hn]

theorem x_from (b : List Int) (n : Nat) (hn : n ≤ 100000) (d : Nat) : ∀ (k j : Nat) (acc : List Int) (i h : Int), j + d = n → acc.length = j → d < k → Cu b i → (∀ z ∈ acc, -127 ≤ z ∧ z ≤ 127) →
    ∃ r i' h', (∀ k', d < k' → spec_l05X.l0 k' (n : Int) acc (j : Int) b i h = some (r, i', h')) ∧ r.length = n ∧ (∀ z ∈ r, -127 ≤ z ∧ z ≤ 127) ∧ Cu b i' := by
  induction d with
  | zero =>
    intro k j acc i h hj ha hk hc hz
    refine ⟨acc, i, h, fun k' hk' => ?_, by omega, hz, hc⟩
    obtain ⟨k', rfl⟩ : ∃ m, k' = m + 1 := ⟨k' - 1, by omega⟩
    simp only [spec_l05X.l0]; rw [if_neg (by omega)]
  | succ d ih =>
    intro k j acc i h hj ha hk hc hz
    obtain ⟨v, i1, h1, e, v0, v1, hc1⟩ := below_tells b i h hc 255 (by omega) (by omega)
    obtain ⟨r, i', h', hr, hl, hz', hc'⟩ := ih (k - 1) (j + 1) (acc ++ [v - 127]) i1 h1 (by omega) (by simp; omega) (by omega) hc1 (fun z hz1 => by
      rcases List.mem_append.1 hz1 with h | h
      · exact hz z h
      · rw [List.mem_singleton.1 h]; omega)
    refine ⟨r, i', h', fun k' hk' => ?_, hl, hz', hc'⟩
    obtain ⟨k', rfl⟩ : ∃ m, k' = m + 1 := ⟨k' - 1, by omega⟩
    simp only [spec_l05X.l0]
    rw [if_pos (by omega), e]
    simp only [Option.bind_some]
    rw [if_pos (by omega), w64 (i := v - 127) (by omega) (by omega), w64 (by omega) (by omega), show ((j : Int) + 1) = ((j + 1 : Nat) : Int) by omega]
    exact hr k' (by omega)
theorem x_tells (b : List Int) (i h : Int) (hc : Cu b i) (n : Int) (h0 : 0 ≤ n) (hn : n ≤ 100000) : ∃ r i' h', (∀ k, n.toNat < k → spec_l05X.f k b i h n = some (r, i', h')) ∧ (r.length : Int) = n ∧ (∀ z ∈ r, -127 ≤ z ∧ z ≤ 127) ∧ Cu b i' := by
  obtain ⟨m, rfl⟩ := Int.eq_ofNat_of_zero_le h0
  obtain ⟨r, i', h', hr, hl, hz, hc'⟩ := x_from b m (by omega) m (m + 1) 0 [] i h (by omega) rfl (by omega) hc (fun z hz => by cases hz)
  refine ⟨r, i', h', fun k hk => ?_, by omega, hz, hc'⟩
  unfold spec_l05X.f
  exact hr k (by omega)

/-- x cut into h parts. -/
def headsOf (x : List Int) (h : Int) : List (List Int) × Bool :=
  if h = 1 ∧ x.length ≠ 0 then ([x], true)
  else if h = 2 ∧ x.length ≠ 0 ∧ x.length % 2 = 0 then ([x.take (x.length / 2), x.drop (x.length / 2)], true)
  else ([], false)
theorem headsOf_one (x : List Int) (hx : x.length ≠ 0) : headsOf x 1 = ([x], true) := by unfold headsOf; rw [if_pos ⟨rfl, hx⟩]
theorem headsOf_two (x : List Int) (m : Nat) (hm : x.length = 2 * m) (h0 : m ≠ 0) : headsOf x 2 = ([x.take m, x.drop m], true) := by
  unfold headsOf; rw [if_neg (by omega), if_pos ⟨rfl, by omega, by omega⟩, show x.length / 2 = m by omega]
theorem headsOf_no (x : List Int) (h : Int) (hn : ¬ (h = 1 ∧ x.length ≠ 0)) (hn2 : ¬ (h = 2 ∧ x.length ≠ 0 ∧ x.length % 2 = 0)) : headsOf x h = ([], false) := by
  unfold headsOf; rw [if_neg hn, if_neg hn2]
theorem w64_0 : wrap64 0 = 0 := w64 (by omega) (by omega)
theorem w64_1 : wrap64 1 = 1 := w64 (by omega) (by omega)
theorem impl_heads (x : List Int) (h : Int) (hl : x.length ≤ 1048576) (k : Nat) (hk : 10 < k) : impl_Heads.f k x h = some (headsOf x h) := by
  obtain ⟨k, rfl⟩ : ∃ m, k = m + 1 + 1 + 1 + 1 := ⟨k - 4, by omega⟩
  unfold impl_Heads.f impl_in.f
  by_cases h1 : h = 1
  · subst h1
    rw [if_pos (by omega)]
    simp only [Option.bind_some]
    rw [if_pos (by decide)]
    by_cases hx : x.length = 0
    · rw [if_pos (by omega), headsOf_no x 1 (by omega) (by omega)]; simp [impl_Heads.j0]
    · rw [if_neg (by omega), if_neg (by omega), headsOf_one x hx]
      simp only [impl_Heads.j0]
      rw [if_neg (by simp), if_neg (by omega), Int.ediv_one, w64 (i := (x.length : Int)) (by omega) (by omega)]
      rw [impl_Heads.l0]
      simp only [Int.zero_add]
      rw [if_pos (by omega), if_pos (by omega), w64 (i := (x.length : Int)) (by omega) (by omega), if_pos (by omega), if_pos (by omega)]
      unfold slices_Clone_int_int.f
      rw [if_pos (by simp; omega)]
      simp only [Option.bind_some]
      rw [if_pos (by simp), impl_Heads.l0, if_neg (by omega)]
      simp
  · by_cases h2 : h = 2
    · subst h2
      rw [if_pos (by omega)]
      simp only [Option.bind_some]
      rw [if_pos (by decide)]
      by_cases hx : x.length = 0
      · rw [if_pos (by omega), headsOf_no x 2 (by omega) (by omega)]; simp [impl_Heads.j0]
      · rw [if_neg (by omega), if_neg (by omega)]
        by_cases he : x.length % 2 = 0
        · obtain ⟨m, hm⟩ : ∃ m, x.length = 2 * m := ⟨x.length / 2, by omega⟩
          rw [headsOf_two x m hm (by omega)]
          simp only [impl_Heads.j0]
          rw [if_neg (by simp; omega), if_neg (by omega), show ((x.length : Int) / 2) = (m : Int) by omega, w64 (i := (m : Int)) (by omega) (by omega)]
          rw [impl_Heads.l0]
          simp only [Int.zero_add]
          rw [if_pos (by omega), if_pos (by omega), w64 (i := (m : Int)) (by omega) (by omega), if_pos (by omega), if_pos (by omega)]
          unfold slices_Clone_int_int.f
          rw [if_pos (by simp; omega)]
          simp only [Option.bind_some]
          rw [if_pos (by simp), impl_Heads.l0, if_pos (by omega), if_pos (by omega), w64 (i := (m : Int) + m) (by omega) (by omega), if_pos (by omega), if_pos (by omega)]
          unfold slices_Clone_int_int.f
          rw [if_pos (by simp; omega)]
          simp only [Option.bind_some]
          rw [if_pos (by simp), impl_Heads.l0, if_neg (by omega)]
          simp only [Int.toNat_natCast, Int.toNat_zero, List.drop_zero, List.nil_append, List.cons_append]
          rw [show ((m : Int) + m).toNat = x.length by omega, List.take_length]
        · rw [headsOf_no x 2 (by omega) (by omega)]
          simp only [impl_Heads.j0]
          rw [if_pos (by simp; omega)]
    · rw [headsOf_no x h (by omega) (by omega)]
      by_cases h3 : h ≥ 1
      · rw [if_pos h3, decide_eq_false (by omega)]; simp [impl_Heads.j0]
      · rw [if_neg h3]; simp [impl_Heads.j0]
theorem spec_heads (x : List Int) (h : Int) (hl : x.length ≤ 1048576) (k : Nat) (hk : 10 < k) : spec_Heads.f k x h = some (headsOf x h) := by
  obtain ⟨k, rfl⟩ : ∃ m, k = m + 1 + 1 + 1 + 1 := ⟨k - 4, by omega⟩
  unfold spec_Heads.f
  rw [Option.bind_some]
  by_cases h1 : h = 1
  · subst h1
    rw [if_pos rfl]
    by_cases hx : x.length = 0
    · rw [if_pos (by omega), headsOf_no x 1 (by omega) (by omega)]; simp [spec_Heads.j0]
    · rw [if_neg (by omega), if_neg (by omega), headsOf_one x hx]
      simp only [spec_Heads.j0]
      rw [if_neg (by simp), if_neg (by omega), Int.ediv_one, w64 (i := (x.length : Int)) (by omega) (by omega)]
      rw [spec_Heads.l0, if_pos (by omega), Option.bind_some, Int.zero_mul, w64_0, Int.zero_add, Int.zero_add, w64_1]
      rw [if_pos (by omega), w64 (i := (x.length : Int)) (by omega) (by omega), if_pos (by omega), if_pos (by omega), if_pos (by simp; omega), if_pos (by simp), spec_Heads.l0, if_neg (by omega)]
      simp
  · rw [if_neg h1]
    by_cases h2 : h = 2
    · subst h2
      rw [if_pos rfl]
      by_cases hx : x.length = 0
      · rw [if_pos (by omega), headsOf_no x 2 (by omega) (by omega)]; simp [spec_Heads.j0]
      · rw [if_neg (by omega), if_neg (by omega)]
        by_cases he : x.length % 2 = 0
        · obtain ⟨m, hm⟩ : ∃ m, x.length = 2 * m := ⟨x.length / 2, by omega⟩
          rw [headsOf_two x m hm (by omega)]
          simp only [spec_Heads.j0]
          rw [if_neg (by simp; omega), if_neg (by omega), show ((x.length : Int) / 2) = (m : Int) by omega, w64 (i := (m : Int)) (by omega) (by omega)]
          rw [spec_Heads.l0, if_pos (by omega), Option.bind_some, Int.zero_mul, w64_0, Int.zero_add, Int.zero_add, w64_1]
          rw [if_pos (by omega), w64 (i := (m : Int)) (by omega) (by omega), if_pos (by omega), if_pos (by omega), if_pos (by simp; omega), if_pos (by simp), spec_Heads.l0, if_pos (by omega)]
          rw [Option.bind_some, Int.one_mul, show (1 : Int) + 1 = 2 from rfl, show wrap64 2 = 2 from w64 (by omega) (by omega)]
          rw [w64 (i := (m : Int)) (by omega) (by omega), if_pos (by omega), w64 (i := (m : Int) + m) (by omega) (by omega), if_pos (by omega), if_pos (by omega), if_pos (by simp; omega), if_pos (by simp), spec_Heads.l0, if_neg (by omega)]
          simp only [Int.toNat_natCast, Int.toNat_zero, List.drop_zero, List.nil_append, List.cons_append]
          rw [show ((m : Int) + m).toNat = x.length by omega, List.take_length]
        · rw [headsOf_no x 2 (by omega) (by omega)]
          simp only [spec_Heads.j0]
          rw [if_pos (by simp; omega)]
    · rw [if_neg h2, headsOf_no x h (by omega) (by omega)]
      simp [spec_Heads.j0]

theorem same_from (a b : List Int) (hl : a.length ≤ 9223372036854775806) (hab : a.length = b.length) (d : Nat) : ∀ (k i : Nat), i ≤ a.length → a.length - i = d → d < k →
    laws_sameInts.l0 k a b (i : Int) = some (decide (a.drop i = b.drop i)) := by
  induction d with
  | zero =>
    intro k i hi' hd hk
    obtain ⟨k, rfl⟩ : ∃ m, k = m + 1 := ⟨k - 1, by omega⟩
    rw [List.drop_of_length_le (by omega), List.drop_of_length_le (by omega)]
    simp only [laws_sameInts.l0]; rw [if_neg (by omega)]; simp
  | succ d ih =>
    intro k i hi' hd hk
    obtain ⟨k, rfl⟩ : ∃ m, k = m + 1 := ⟨k - 1, by omega⟩
    have hlt : i < a.length := by omega
    have hltb : i < b.length := by omega
    simp only [laws_sameInts.l0]
    rw [if_pos (by omega), if_pos (by omega), if_pos (by omega), rd_get a i hlt, rd_get b i hltb, List.drop_eq_getElem_cons hlt, List.drop_eq_getElem_cons hltb]
    by_cases h : a[i] = b[i]
    · rw [if_pos h, w64 (by omega) (by omega), show ((i : Int) + 1) = ((i + 1 : Nat) : Int) by omega, ih k (i + 1) (by omega) (by omega) (by omega)]
      congr 1
      rw [decide_eq_decide]
      simp only [h, List.cons.injEq, true_and]
    · rw [if_neg h, decide_eq_false (fun e => h (List.cons.inj e).1)]
/-- laws.sameInts: equal lists. -/
theorem same_tells (a b : List Int) (hl : a.length ≤ 9223372036854775806) (k : Nat) (hk : a.length < k) : laws_sameInts.f k a b = some (decide (a = b)) := by
  unfold laws_sameInts.f
  by_cases h : a.length = b.length
  · rw [if_pos (by omega)]
    have := same_from a b hl h a.length k 0 (by omega) (by omega) hk
    simpa using this
  · rw [if_neg (by omega), decide_eq_false]
    intro e; rw [e] at h; exact h rfl

theorem FnHeads : laws_FnHeads.Pure := by
  intro c hm hs hw
  unfold laws_FnHeads.f laws_big.f
  by_cases hb : (c.length : Int) > 1048576
  · exact ⟨0, by rw [decide_eq_true hb]; rfl⟩
  · rw [decide_eq_false hb]
    simp only [Option.bind_some, Bool.false_eq_true, if_false]
    unfold spec_DrawHeads.f spec_l01New.f
    have hc0 : Cu c 0 := ⟨by omega, by omega, by omega⟩
    obtain ⟨n, i1, h1, e1, n0, n1, hc1⟩ := below_tells c 0 (spec_l01New.hash c) hc0 9 (by omega) (by omega)
    obtain ⟨x, i2, h2, e2, hx, hxz, hc2⟩ := x_tells c i1 h1 hc1 n n0 (by omega)
    obtain ⟨h, i3, h3, e3, z0, z1, hc3⟩ := below_tells c i2 h2 hc2 4 (by omega) (by omega)
    obtain ⟨k, hk⟩ : ∃ k : Nat, k = 100 := ⟨_, rfl⟩
    refine ⟨k, ?_⟩
    simp only [Option.bind_some, e1, e2 k (by omega), e3]
    rw [impl_heads x h (by omega) k (by omega), spec_heads x h (by omega) k (by omega)]
    obtain ⟨j, rfl⟩ : ∃ j, k = j + 1 + 1 + 1 := ⟨k - 3, by omega⟩
    simp only [Option.bind_some, bne_self_eq_false, Bool.false_eq_true, if_false]
    by_cases g1 : h = 1 ∧ x.length ≠ 0
    · rw [g1.1, headsOf_one x g1.2]
      rw [laws_FnHeads.l0, if_pos (by simp), if_pos (by omega), if_pos (by simp [rd_L3]; omega), Int.zero_add, w64_1, laws_FnHeads.l0, if_neg (by simp), if_pos rfl]
      simp only [rd_L3, List.nil_append]
      rw [same_tells _ _ (by simp; omega) _ (by simp; omega)]
      simp
    · by_cases g2 : h = 2 ∧ x.length ≠ 0 ∧ x.length % 2 = 0
      · obtain ⟨m, hm⟩ : ∃ m, x.length = 2 * m := ⟨x.length / 2, by omega⟩
        rw [g2.1, headsOf_two x m hm (by omega)]
        rw [laws_FnHeads.l0, if_pos (by simp), if_pos (by omega), if_pos (by simp [rd_L3]; omega), Int.zero_add, w64_1, laws_FnHeads.l0, if_pos (by simp), if_pos (by omega), if_pos (by simp [rd_L3]; omega), show (1 : Int) + 1 = 2 from rfl, show wrap64 2 = 2 from w64 (by omega) (by omega), laws_FnHeads.l0, if_neg (by simp), if_pos rfl]
        simp only [rd_L3, List.nil_append]
        rw [same_tells _ _ (by simp; omega) _ (by simp; omega)]
        simp
      · rw [headsOf_no x h g1 g2]
        rw [laws_FnHeads.l0, if_neg (by simp)]
        simp

end Go.Proofs.Ytnkbadlppconjaa.Pure
