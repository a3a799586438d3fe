/- The budget of a drawn right model is the worst of its rows, and none is above it. No conditions. -/
import Derived.Test.YtacbkcofcbglhaaGFnBudget3
namespace Go.Proofs.Ytacbkcofcbglhaa.Pure
open Go.RowKit Go.Proofs.Ytacbkcofcbglhaa.PFnBudget Go.Proofs.YtacbkcofcbglhaaW.PrintWords Go.Proofs.YtacbkcofcbglhaaW.PrintLast Go.Proofs.YtacbkcofcbglhaaW.PrintMore
set_option linter.unusedVariables false
set_option linter.unusedSimpArgs false

theorem w64 {i : Int} (h0 : -9223372036854775808 ≤ i) (h : i ≤ 9223372036854775807) : wrap64 i = i := by unfold wrap64; omega
theorem rd_get (l : List Int) (i : Nat) (h : i < l.length) : rd l (i : Int) = l[i] := by simp [rd, List.getD_eq_getElem?_getD, h]


theorem and_small (m : Nat) (hm : m < 9223372036854775808) (x : Int) : 0 ≤ Go.bits .and .i64 x (m : Int) ∧ Go.bits .and .i64 x (m : Int) ≤ (m : Int) := by
  simp only [Go.bits, BitVec.toNat_and]
  have h1 : (BitVec.ofInt IntKind.i64.bits x).toNat &&& (BitVec.ofInt IntKind.i64.bits (m : Int)).toNat ≤ m := by
    refine Nat.le_trans Nat.and_le_right ?_
    rw [BitVec.ofInt_natCast, BitVec.toNat_ofNat]
    exact Nat.mod_le _ _
  generalize (BitVec.ofInt IntKind.i64.bits x).toNat &&& (BitVec.ofInt IntKind.i64.bits (m : Int)).toNat = y at h1
  rw [IntKind.wrap_i64]
  omega
/-- A cursor's place. -/
def Cu (b : List Int) (i : Int) : Prop := 0 ≤ i ∧ i ≤ (b.length : Int) ∧ b.length ≤ 1048576
def widthB (n : Int) : Bool := decide (n = 4) || decide (n = 8)
theorem tmod4 (n : Int) (h0 : 4 ≤ n) (h1 : n ≤ 8) : (Int.tmod n 4 == 0) = widthB n := by
  have : n = 4 ∨ n = 5 ∨ n = 6 ∨ n = 7 ∨ n = 8 := by omega
  rcases this with rfl | rfl | rfl | rfl | rfl <;> rfl
theorem width_facts (n : Int) (h : widthB n = true) : n = 4 ∨ n = 8 := by
  unfold widthB at h; simpa using h
theorem width_no (n : Int) (h : ¬ (4 ≤ n ∧ n ≤ 8)) : widthB n = false := by
  unfold widthB; rw [decide_eq_false (by omega), decide_eq_false (by omega)]; rfl
def rowB (r s : List Int) : Bool := widthB (r.length : Int) && (r.all fun z => decide (-8 ≤ z) && decide (z ≤ 7)) && decide ((s.length : Int) = (r.length : Int) / 4) && s.all fun z => decide (1 ≤ z) && decide (z ≤ 127)
theorem row_facts (r s : List Int) (h : rowB r s = true) : (r.length = 4 ∨ r.length = 8) ∧ (∀ z ∈ r, -8 ≤ z ∧ z ≤ 7) ∧ s.length = r.length / 4 ∧ ∀ z ∈ s, 1 ≤ z ∧ z ≤ 127 := by
  unfold rowB at h
  simp only [Bool.and_eq_true, List.all_eq_true, decide_eq_true_eq] at h
  have := width_facts _ h.1.1.1
  exact ⟨by omega, h.1.1.2, by omega, h.2⟩
theorem rd_mem (l : List Int) (i : Nat) (h : i < l.length) : rd l (i : Int) ∈ l := by rw [rd_get l i h]; exact List.getElem_mem h
theorem tdiv4 (i : Nat) : Int.tdiv (i : Int) 4 = ((i / 4 : Nat) : Int) := by
  rw [Int.tdiv_eq_ediv_of_nonneg (by omega)]; omega

theorem byteG (k : Nat) (b : List Int) (i h : Int) (hc : Cu b i) : ∃ v i' h', spec_l01Byte.g k ⟨b, i, h⟩ = some (v, ⟨b, i', h'⟩) ∧ 0 ≤ v ∧ v ≤ 255 ∧ Cu b i' := by
  obtain ⟨h0, h1, h2⟩ := hc
  unfold spec_l01Byte.g
  by_cases hl : i < (b.length : Int)
  · rw [if_pos hl, if_pos ⟨h0, hl⟩, w64 (i := i + 1) (by omega) (by omega)]
    exact ⟨_, _, _, rfl, (and_small 255 (by decide) _).1, (and_small 255 (by decide) _).2, by omega, by omega, h2⟩
  · rw [if_neg hl]
    exact ⟨_, _, _, rfl, (and_small 255 (by decide) _).1, (and_small 255 (by decide) _).2, h0, h1, h2⟩
theorem belowG (k : Nat) (b : List Int) (i h : Int) (hc : Cu b i) (n : Int) (hn : 0 < n) (hn2 : n ≤ 4294967296) : ∃ v i' h', spec_l01Below.g k ⟨b, i, h⟩ n = some (v, ⟨b, i', h'⟩) ∧ 0 ≤ v ∧ v < n ∧ Cu b i' := by
  unfold spec_l01Below.g
  rw [if_neg (by omega)]
  obtain ⟨v, i', h', e, v0, v1, hc'⟩ := byteG k b i h hc
  by_cases h256 : n ≤ 256
  · rw [if_pos h256, e]
    simp only [Option.bind_some]
    rw [if_pos (by omega), Int.tmod_eq_emod_of_nonneg v0]
    exact ⟨_, _, _, rfl, Int.emod_nonneg _ (by omega), Int.emod_lt_of_pos _ hn, hc'⟩
  · obtain ⟨v2, i2, h2, e2, v20, v21, hc2⟩ := byteG k b i' h' hc'
    obtain ⟨v3, i3, h3, e3, v30, v31, hc3⟩ := byteG k b i2 h2 hc2
    obtain ⟨v4, i4, h4, e4, v40, v41, hc4⟩ := byteG k b i3 h3 hc3
    rw [if_neg h256, e]
    simp only [Option.bind_some, e2, e3, e4]
    rw [if_pos (by omega), w64 (i := v * 16777216) (by omega) (by omega), w64 (i := v2 * 65536) (by omega) (by omega), w64 (i := v3 * 256) (by omega) (by omega), w64 (i := v * 16777216 + v2 * 65536) (by omega) (by omega), w64 (i := v * 16777216 + v2 * 65536 + v3 * 256) (by omega) (by omega), w64 (by omega) (by omega), Int.tmod_eq_emod_of_nonneg (by omega)]
    exact ⟨_, _, _, rfl, Int.emod_nonneg _ (by omega), Int.emod_lt_of_pos _ hn, hc4⟩
theorem belowG_k (k k' : Nat) (x : S140) (n : Int) : spec_l01Below.g k x n = spec_l01Below.g k' x n := rfl
theorem onceG (k : Nat) (b : List Int) (i h : Int) (hc : Cu b i) (n : Int) (hn : 0 < n) (hn2 : n ≤ 4294967296) : ∃ v i' h', spec_l01Once.g k ⟨b, i, h⟩ n = some (v, ⟨b, i', h'⟩) ∧ Cu b i' := by
  obtain ⟨v, i', h', e, _, _, hc'⟩ := belowG k b i h hc n hn hn2
  unfold spec_l01Once.g
  rw [e, Option.bind_some]
  exact ⟨_, _, _, rfl, hc'⟩
/-- a list of drawn numbers -/
theorem drawList (b : List Int) (m : Int) (hm : 0 < m) (hm2 : m ≤ 4294967296) (F : Int → Int) (P : Int → Prop) (hP : ∀ v, 0 ≤ v → v < m → P (F v)) (n : Nat) (hn : n ≤ 100000) (L : Nat → List Int → Int → Int → Int → Option (List Int × Int × Int × Int))
    (hL : ∀ k xs j i h, L (k + 1) xs j i h = if j < (n : Int) then ((spec_l01Below.g k ⟨b, i, h⟩ m).bind fun t => if xs.length < 4294967296 then L k (xs ++ [F t.1]) (wrap64 (j + 1)) t.2.f1 t.2.f2 else none) else some (xs, j, i, h)) (d : Nat) :
    ∀ (j : Nat) (acc : List Int) (i h : Int), j + d = n → acc.length = j → Cu b i → (∀ z ∈ acc, P z) →
    ∃ r i' h', (∀ k, d < k → L k acc (j : Int) i h = some (r, (n : Int), i', h')) ∧ r.length = n ∧ (∀ z ∈ r, P z) ∧ Cu b i' := by
  induction d with
  | zero =>
    intro j acc i h hj ha hc hz
    refine ⟨acc, i, h, fun k hk => ?_, by omega, hz, hc⟩
    obtain ⟨k, rfl⟩ : ∃ m, k = m + 1 := ⟨k - 1, by omega⟩
    rw [hL, if_neg (by omega), show (j : Int) = (n : Int) by omega]
  | succ d ih =>
    intro j acc i h hj ha hc hz
    obtain ⟨v, i1, h1, e, v0, v1, hc1⟩ := belowG 0 b i h hc m hm hm2
    obtain ⟨r, i', h', hr, hl, hz', hc'⟩ := ih (j + 1) (acc ++ [F v]) i1 h1 (by omega) (by simp; omega) hc1 (fun z hz1 => by
      rcases List.mem_append.1 hz1 with h | h
      · exact hz z h
      · rw [List.mem_singleton.1 h]; exact hP v v0 v1)
    refine ⟨r, i', h', fun k hk => ?_, hl, hz', hc'⟩
    obtain ⟨k, rfl⟩ : ∃ m, k = m + 1 := ⟨k - 1, by omega⟩
    rw [hL, if_pos (by omega), belowG_k k 0, e, Option.bind_some, if_pos (by omega), w64 (by omega) (by omega), show ((j : Int) + 1) = ((j + 1 : Nat) : Int) by omega]
    exact hr k (by omega)
theorem drawList0 (b : List Int) (m : Int) (hm : 0 < m) (hm2 : m ≤ 4294967296) (F : Int → Int) (P : Int → Prop) (hP : ∀ v, 0 ≤ v → v < m → P (F v)) (n : Nat) (hn : n ≤ 100000) (L : Nat → List Int → Int → Int → Int → Option (List Int × Int × Int × Int))
    (hL : ∀ k xs j i h, L (k + 1) xs j i h = if j < (n : Int) then ((spec_l01Below.g k ⟨b, i, h⟩ m).bind fun t => if xs.length < 4294967296 then L k (xs ++ [F t.1]) (wrap64 (j + 1)) t.2.f1 t.2.f2 else none) else some (xs, j, i, h)) (i h : Int) (hc : Cu b i) :
    ∃ r i' h', (∀ k, n < k → L k [] 0 i h = some (r, (n : Int), i', h')) ∧ r.length = n ∧ (∀ z ∈ r, P z) ∧ Cu b i' :=
  drawList b m hm hm2 F P hP n hn L hL n 0 [] i h (by omega) rfl hc (fun z hz => by cases hz)
theorem smallG (b : List Int) (n : Nat) (hn : n ≤ 100000) (i h : Int) (hc : Cu b i) : ∃ r i' h', (∀ k, n < k → spec_l04Small.g k ⟨b, i, h⟩ (n : Int) = some (r, ⟨b, i', h'⟩)) ∧ r.length = n ∧ (∀ z ∈ r, -8 ≤ z ∧ z ≤ 7) ∧ Cu b i' := by
  obtain ⟨r, i', h', hr, g1, g2, g3⟩ := drawList0 b 16 (by omega) (by omega) (fun v => wrap64 (v - 8)) (fun z => -8 ≤ z ∧ z ≤ 7) (fun v a c => by show -8 ≤ wrap64 (v - 8) ∧ wrap64 (v - 8) ≤ 7; rw [w64 (by omega) (by omega)]; omega) n hn (spec_l04Small.l0 ⟨b, i, h⟩ (n : Int)) (fun _ _ _ _ _ => rfl) i h hc
  refine ⟨r, i', h', fun k hk => ?_, g1, g2, g3⟩
  unfold spec_l04Small.g
  rw [hr k hk, Option.bind_some]
theorem gainG (b : List Int) (n : Nat) (hn : n ≤ 100000) (i h : Int) (hc : Cu b i) : ∃ r i' h', (∀ k, n < k → spec_l10Gain.g k ⟨b, i, h⟩ (n : Int) = some (r, ⟨b, i', h'⟩)) ∧ r.length = n ∧ (∀ z ∈ r, 0 ≤ z ∧ z ≤ 127) ∧ Cu b i' := by
  obtain ⟨r, i', h', hr, g1, g2, g3⟩ := drawList0 b 100 (by omega) (by omega) (fun v => wrap64 (20 + v)) (fun z => 0 ≤ z ∧ z ≤ 127) (fun v a c => by show 0 ≤ wrap64 (20 + v) ∧ wrap64 (20 + v) ≤ 127; rw [w64 (by omega) (by omega)]; omega) n hn (spec_l10Gain.l0 ⟨b, i, h⟩ (n : Int)) (fun _ _ _ _ _ => rfl) i h hc
  refine ⟨r, i', h', fun k hk => ?_, g1, g2, g3⟩
  unfold spec_l10Gain.g
  rw [hr k hk, Option.bind_some]
/-- what a drawn row and its scales are -/
def RowG (w : Nat) (r s : List Int) : Prop := r.length = w ∧ (∀ z ∈ r, -8 ≤ z ∧ z ≤ 7) ∧ s.length = w / 4 ∧ ∀ z ∈ s, 1 ≤ z ∧ z ≤ 30
theorem rowG_ok (w : Nat) (hw : w = 4 ∨ w = 8) (r s : List Int) (h : RowG w r s) : rowB r s = true := by
  obtain ⟨h1, h2, h3, h4⟩ := h
  unfold rowB widthB
  simp only [Bool.and_eq_true, Bool.or_eq_true, List.all_eq_true, decide_eq_true_eq]
  exact ⟨⟨⟨by omega, fun z hz => h2 z hz⟩, by omega⟩, fun z hz => by have := h4 z hz; omega⟩
theorem getD_l {α : Type} (l l' : List α) (i : Nat) (d : α) (h : i < l.length) : (l ++ l').getD i d = l.getD i d := by
  rw [List.getD_eq_getElem?_getD, List.getD_eq_getElem?_getD, List.getElem?_append_left h]
theorem getD_r {α : Type} (l : List α) (a : α) (i : Nat) (d : α) (h : i = l.length) : (l ++ [a]).getD i d = a := by
  subst h
  rw [List.getD_eq_getElem?_getD, List.getElem?_append_right (Nat.le_refl _), Nat.sub_self]; rfl
theorem rows_snoc (w : Nat) (R S : List (List Int)) (r s : List Int) (j : Nat) (hR : R.length = j) (hS : S.length = j) (h : ∀ q, q < j → RowG w (R.getD q []) (S.getD q [])) (h2 : RowG w r s) : ∀ q, q < j + 1 → RowG w ((R ++ [r]).getD q []) ((S ++ [s]).getD q []) := fun q hq => by
  by_cases hlt : q < j
  · rw [getD_l R [r] q [] (by omega), getD_l S [s] q [] (by omega)]; exact h q hlt
  · rw [getD_r R r q [] (by omega), getD_r S s q [] (by omega)]; exact h2
theorem matG_from (b : List Int) (x : S140) (hx : x.f0 = b) (w n : Nat) (hw : w = 4 ∨ w = 8) (hn : n ≤ 300) (d : Nat) : ∀ (j : Nat) (R S : List (List Int)) (i h : Int), j + d = n → R.length = j → S.length = j → Cu b i → (∀ q, q < j → RowG w (R.getD q []) (S.getD q [])) →
    ∃ R' S' i' h', (∀ k, d + 20 < k → spec_l05Matrix.l0 x (w : Int) (n : Int) k (j : Int) i h R S = some ((n : Int), i', h', R', S')) ∧ R'.length = n ∧ S'.length = n ∧ Cu b i' ∧ ∀ q, q < n → RowG w (R'.getD q []) (S'.getD q []) := by
  induction d with
  | zero =>
    intro j R S i h hj hR hS hc hq
    refine ⟨R, S, i, h, fun k hk => ?_, by omega, by omega, hc, fun q hq' => hq q (by omega)⟩
    obtain ⟨k, rfl⟩ : ∃ m, k = m + 1 := ⟨k - 1, by omega⟩
    unfold spec_l05Matrix.l0 spec_l05Matrix.b0
    rw [if_neg (by omega), show (j : Int) = (n : Int) by omega]
  | succ d ih =>
    intro j R S i h hj hR hS hc hq
    obtain ⟨s, i1, h1, e1, s1, s2, hc1⟩ := drawList0 b 20 (by omega) (by omega) (fun v => wrap64 (1 + v)) (fun z => 1 ≤ z ∧ z ≤ 30) (fun v a c => by show 1 ≤ wrap64 (1 + v) ∧ wrap64 (1 + v) ≤ 30; rw [w64 (by omega) (by omega)]; omega) (w / 4) (by omega) (spec_l05Matrix.l1 x (w : Int)) (fun k xs j i h => by
      show spec_l05Matrix.b1 x (w : Int) (spec_l05Matrix.l1 x (w : Int) k) k xs j i h = _
      unfold spec_l05Matrix.b1
      rw [hx, tdiv4, w64 (i := ((w / 4 : Nat) : Int)) (by omega) (by omega)]) i h hc
    obtain ⟨r, i2, h2, e2, r1, r2, hc2⟩ := smallG b w (by omega) i1 h1 hc1
    obtain ⟨R', S', i', h', hr, g1, g2, g3, g4⟩ := ih (j + 1) (R ++ [r]) (S ++ [s]) i2 h2 (by omega) (by simp; omega) (by simp; omega) hc2 (rows_snoc w R S r s j hR hS hq ⟨r1, r2, s1, s2⟩)
    refine ⟨R', S', i', h', fun k hk => ?_, g1, g2, g3, g4⟩
    obtain ⟨k, rfl⟩ : ∃ m, k = m + 1 := ⟨k - 1, by omega⟩
    unfold spec_l05Matrix.l0 spec_l05Matrix.b0
    rw [if_pos (by omega), e1 k (by omega), Option.bind_some]
    show ((spec_l04Small.g k (⟨x.f0, i1, h1⟩ : S140) (w : Int)).bind _) = _
    rw [hx, e2 k (by omega), Option.bind_some, if_pos (by omega), if_pos (by omega), w64 (by omega) (by omega), show ((j : Int) + 1) = ((j + 1 : Nat) : Int) by omega]
    exact hr k (by omega)
theorem matG (b : List Int) (i h : Int) (hc : Cu b i) (w n : Nat) (hw : w = 4 ∨ w = 8) (hn : n ≤ 300) :
    ∃ R S M H i' h', (∀ k, n + 20 < k → spec_l05Matrix.g k ⟨b, i, h⟩ (w : Int) (n : Int) = some (⟨(w : Int), R, S, M, H⟩, ⟨b, i', h'⟩)) ∧ R.length = n ∧ S.length = n ∧ 1 ≤ M ∧ M ≤ 40 ∧ 6 ≤ H ∧ H ≤ 10 ∧ Cu b i' ∧ ∀ q, q < n → RowG w (R.getD q []) (S.getD q []) := by
  obtain ⟨m, i1, h1, e1, m0, m1, hc1⟩ := belowG 0 b i h hc 40 (by omega) (by omega)
  obtain ⟨s, i2, h2, e2, s0, s1, hc2⟩ := belowG 0 b i1 h1 hc1 5 (by omega) (by omega)
  obtain ⟨R, S, i', h', hr, g1, g2, g3, g4⟩ := matG_from b ⟨b, i, h⟩ rfl w n hw hn n 0 [] [] i2 h2 (by omega) rfl rfl hc2 (fun q hq => by omega)
  refine ⟨R, S, 1 + m, 6 + s, i', h', fun k hk => ?_, g1, g2, by omega, by omega, by omega, by omega, g3, g4⟩
  unfold spec_l05Matrix.g
  rw [belowG_k k 0, e1, Option.bind_some, belowG_k k 0, e2, Option.bind_some]
  have hr' := hr k hk
  rw [show ((0 : Nat) : Int) = 0 from rfl] at hr'
  rw [hr', Option.bind_some, w64 (i := 1 + m) (by omega) (by omega), w64 (i := 6 + s) (by omega) (by omega)]

theorem all_from (lo hi : Int) (l : List Int) (hl : l.length ≤ 9223372036854775806) (d : Nat) : ∀ (k i : Nat), i ≤ l.length → l.length - i = d → d < k →
    spec_l05All.l0 k l lo hi (i : Int) = some ((l.drop i).all fun x => decide (lo ≤ x) && decide (x ≤ hi)) := by
  induction d with
  | zero =>
    intro k i hi' hd hk
    obtain ⟨k, rfl⟩ : ∃ m, k = m + 1 := ⟨k - 1, by omega⟩
    rw [List.drop_of_length_le (by omega)]
    simp only [spec_l05All.l0]; rw [if_neg (by omega)]; rfl
  | succ d ih =>
    intro k i hi' hd hk
    obtain ⟨k, rfl⟩ : ∃ m, k = m + 1 := ⟨k - 1, by omega⟩
    have hlt : i < l.length := by omega
    simp only [spec_l05All.l0]
    rw [if_pos (by omega), if_pos (by omega), rd_get l i hlt, List.drop_eq_getElem_cons hlt, List.all_cons]
    unfold spec_l01In.f
    by_cases h1 : l[i] ≥ lo
    · rw [if_pos h1]
      simp only [Option.bind_some]
      by_cases h2 : l[i] ≤ hi
      · rw [decide_eq_true h2, if_pos rfl, w64 (by omega) (by omega), show ((i : Int) + 1) = ((i + 1 : Nat) : Int) by omega, ih k (i + 1) (by omega) (by omega) (by omega)]
        simp [h1]
      · rw [decide_eq_false h2]; simp
    · rw [if_neg h1]; simp only [Option.bind_some]; rw [decide_eq_false h1]; simp
/-- spec.l05All: all within. -/
theorem all_tells (lo hi : Int) (l : List Int) (hl : l.length ≤ 9223372036854775806) (k : Nat) (hk : l.length < k) : spec_l05All.f k l lo hi = some (l.all fun x => decide (lo ≤ x) && decide (x ≤ hi)) := by
  unfold spec_l05All.f
  have := all_from lo hi l hl l.length k 0 (by omega) (by omega) hk
  rw [List.drop_zero] at this
  exact this


theorem spec_width (n : Int) : spec_l05Width.f n = some (widthB n) := by
  unfold spec_l05Width.f spec_l01In.f
  by_cases h1 : n ≥ 4
  · rw [if_pos h1, Option.bind_some]
    by_cases h2 : n ≤ 8
    · rw [decide_eq_true h2, if_pos rfl, tmod4 n h1 h2]
    · rw [decide_eq_false h2, if_neg (by simp), width_no n (by omega)]
  · rw [if_neg h1, Option.bind_some, if_neg (by simp), width_no n (by omega)]
theorem spec_row (r s : List Int) (hr : r.length ≤ 9223372036854775806) (hs : s.length ≤ 9223372036854775806) (k : Nat) (hk : r.length + s.length < k) : spec_l05Fits.f k r s = some (rowB r s) := by
  unfold spec_l05Fits.f rowB
  rw [spec_width, Option.bind_some, w64 (i := (r.length : Int) / 4) (by omega) (by omega), all_tells _ _ r hr k (by omega), all_tells _ _ s hs k (by omega)]
  cases h1 : widthB (r.length : Int) with
  | false => rfl
  | true =>
    rw [if_pos rfl, Option.bind_some]
    cases h2 : r.all fun z => decide (-8 ≤ z) && decide (z ≤ 7) with
    | false => simp
    | true =>
      rw [if_pos rfl]
      by_cases h3 : (s.length : Int) = (r.length : Int) / 4
      · rw [if_pos h3, Option.bind_some, decide_eq_true h3]; rfl
      · rw [if_neg h3, decide_eq_false h3]; rfl

theorem impl_width (n : Int) : impl_isWidth.f n = some (widthB n) := by
  unfold impl_isWidth.f impl_in.f
  by_cases h1 : n ≥ 4
  · rw [if_pos h1, Option.bind_some]
    by_cases h2 : n ≤ 8
    · rw [decide_eq_true h2, if_pos rfl, tmod4 n h1 h2]
    · rw [decide_eq_false h2, if_neg (by simp), width_no n (by omega)]
  · rw [if_neg h1, Option.bind_some, if_neg (by simp), width_no n (by omega)]
theorem impl_row (r s : List Int) (hr : r.length ≤ 9223372036854775807) : impl_rowOk.f r s = some (rowB r s) := by
  unfold impl_rowOk.f impl_allIn.f rowB
  rw [impl_width, Option.bind_some, w64 (i := (r.length : Int) / 4) (by omega) (by omega)]
  cases h1 : widthB (r.length : Int) with
  | false => rfl
  | true =>
    rw [if_pos rfl, Option.bind_some]
    cases h2 : r.all fun z => decide (-8 ≤ z) && decide (z ≤ 7) with
    | false => simp
    | true =>
      rw [if_pos rfl]
      by_cases h3 : (s.length : Int) = (r.length : Int) / 4
      · rw [if_pos h3, Option.bind_some, decide_eq_true h3]; rfl
      · rw [if_neg h3, decide_eq_false h3]; rfl

def matB (w : Int) (R S : List (List Int)) (m h : Int) : Bool := widthB w && decide (R.length ≤ 300) && decide (S.length = R.length) && decide (0 ≤ m) && decide (m ≤ 65536) && decide (0 ≤ h) && decide (h ≤ 24) && (List.range R.length).all fun i => decide (((R.getD i []).length : Int) = w) && rowB (R.getD i []) (S.getD i [])
theorem mat_facts (w : Int) (R S : List (List Int)) (m h : Int) (g : matB w R S m h = true) : (w = 4 ∨ w = 8) ∧ R.length ≤ 300 ∧ S.length = R.length ∧ 0 ≤ m ∧ m ≤ 65536 ∧ 0 ≤ h ∧ h ≤ 24 ∧ ∀ i, i < R.length → ((R.getD i []).length : Int) = w ∧ rowB (R.getD i []) (S.getD i []) = true := by
  unfold matB at g
  simp only [Bool.and_eq_true, List.all_eq_true, decide_eq_true_eq, List.mem_range] at g
  exact ⟨width_facts _ g.1.1.1.1.1.1.1, g.1.1.1.1.1.1.2, g.1.1.1.1.1.2, g.1.1.1.1.2, g.1.1.1.2, g.1.1.2, g.1.2, fun i hi => g.2 i hi⟩
theorem all_range_from (P : Nat → Bool) (n i : Nat) (h : i < n) : ((List.range n).drop i).all P = (P i && ((List.range n).drop (i + 1)).all P) := by
  rw [List.drop_eq_getElem_cons (by simpa using h), List.all_cons, List.getElem_range]
theorem impl_mat_from (w : Int) (R S : List (List Int)) (m h : Int) (hl : R.length ≤ 300) (hs : S.length = R.length) (hlen : ∀ r ∈ R, r.length ≤ 9223372036854775807) (d : Nat) : ∀ (k i : Nat), i + d = R.length → d < k →
    impl_MatrixOk.l0 k R (R.length : Int) (i : Int) w R S m h = some (((List.range R.length).drop i).all fun i => decide (((R.getD i []).length : Int) = w) && rowB (R.getD i []) (S.getD i [])) := by
  induction d with
  | zero =>
    intro k i hi hk
    obtain ⟨k, rfl⟩ : ∃ m, k = m + 1 := ⟨k - 1, by omega⟩
    rw [impl_MatrixOk.l0, if_neg (by omega), List.drop_of_length_le (by simp; omega)]; rfl
  | succ d ih =>
    intro k i hi hk
    obtain ⟨k, rfl⟩ : ∃ m, k = m + 1 := ⟨k - 1, by omega⟩
    have hmem : (R.getD i []).length ≤ 9223372036854775807 := hlen _ (by rw [List.getD_eq_getElem?_getD, List.getElem?_eq_getElem (by omega)]; exact List.getElem_mem _)
    rw [impl_MatrixOk.l0, if_pos (by omega), if_pos (by omega), if_pos (by omega), all_range_from _ _ i (by omega)]
    show (if ((R.getD (i : Int).toNat []).length : Int) = w then _ else _) = _
    rw [Int.toNat_natCast]
    by_cases h1 : ((R.getD i []).length : Int) = w
    · rw [if_pos h1, if_pos (by omega), decide_eq_true h1]
      show ((impl_rowOk.f (R.getD (i : Int).toNat []) (S.getD (i : Int).toNat [])).bind _) = _
      rw [Int.toNat_natCast, impl_row _ _ hmem, Option.bind_some, w64 (by omega) (by omega), show ((i : Int) + 1) = ((i + 1 : Nat) : Int) by omega]
      cases hr : rowB (R.getD i []) (S.getD i []) with
      | true => rw [if_pos rfl, ih k (i + 1) (by omega) (by omega)]; rfl
      | false => rfl
    · rw [if_neg h1, decide_eq_false h1]; rfl
theorem impl_mat (w : Int) (R S : List (List Int)) (m h : Int) (hR : R.length ≤ 9223372036854775807) (hlen : ∀ r ∈ R, r.length ≤ 9223372036854775807) (k : Nat) (hk : 310 < k) : impl_MatrixOk.f k w R S m h = some (matB w R S m h) := by
  obtain ⟨k, rfl⟩ : ∃ m, k = m + 1 := ⟨k - 1, by omega⟩
  unfold impl_MatrixOk.f impl_in.f matB
  rw [impl_width, Option.bind_some]
  cases h1 : widthB w with
  | false => rw [if_neg (by simp), impl_MatrixOk.j0, if_pos rfl]; rfl
  | true =>
    rw [if_pos rfl]
    by_cases h2 : R.length ≤ 300
    · rw [if_neg (by omega), decide_eq_true h2]
      by_cases h3 : S.length = R.length
      · rw [if_pos (by omega), decide_eq_true h3]
        by_cases h4 : 0 ≤ m
        · rw [if_pos h4, Option.bind_some, decide_eq_true h4]
          by_cases h5 : m ≤ 65536
          · rw [decide_eq_true h5, if_pos rfl]
            by_cases h6 : 0 ≤ h
            · rw [if_pos h6, Option.bind_some, decide_eq_true h6]
              by_cases h7 : h ≤ 24
              · rw [decide_eq_true h7, impl_MatrixOk.j0, if_neg (by simp)]
                have := impl_mat_from w R S m h h2 h3 hlen R.length k 0 (by omega) (by omega)
                rw [List.drop_zero] at this
                exact this
              · rw [decide_eq_false h7, impl_MatrixOk.j0, if_pos (by rfl)]; rfl
            · rw [if_neg h6, Option.bind_some, impl_MatrixOk.j0, if_pos (by rfl), decide_eq_false h6]; rfl
          · rw [decide_eq_false h5, if_neg (by simp), impl_MatrixOk.j0, if_pos rfl]; rfl
        · rw [if_neg h4, Option.bind_some, if_neg (by simp), impl_MatrixOk.j0, if_pos rfl, decide_eq_false h4]; rfl
      · rw [if_neg (by omega), impl_MatrixOk.j0, if_pos rfl, decide_eq_false h3]; rfl
    · rw [if_pos (by omega), impl_MatrixOk.j0, if_pos rfl, decide_eq_false h2]; rfl

/-- what a row can come to at most. -/
def wstTo (r s : List Int) : Nat → Int
  | 0 => 0
  | n + 1 => wstTo r s n + rd s ((n / 4 : Nat) : Int) * 127 * ((rd r (n : Int)).natAbs : Int)
def wst (r s : List Int) : Int := if rowB r s = true then wstTo r s r.length else 0
theorem wst_term (r s : List Int) (h : rowB r s = true) (i : Nat) (hi : i < r.length) : 0 ≤ rd s ((i / 4 : Nat) : Int) * 127 ∧ rd s ((i / 4 : Nat) : Int) * 127 ≤ 16129 ∧ ((rd r (i : Int)).natAbs : Int) ≤ 8 ∧ 0 ≤ rd s ((i / 4 : Nat) : Int) * 127 * ((rd r (i : Int)).natAbs : Int) ∧ rd s ((i / 4 : Nat) : Int) * 127 * ((rd r (i : Int)).natAbs : Int) ≤ 129032 := by
  obtain ⟨h1, h2, h3, h4⟩ := row_facts r s h
  have a := h4 _ (rd_mem s (i / 4) (by omega))
  have b := h2 _ (rd_mem r i hi)
  have c : ((rd r (i : Int)).natAbs : Int) ≤ 8 := by omega
  have p0 : 0 ≤ rd s ((i / 4 : Nat) : Int) * 127 := by omega
  have p1 : rd s ((i / 4 : Nat) : Int) * 127 ≤ 16129 := by omega
  refine ⟨p0, p1, c, Int.mul_nonneg p0 (by omega), ?_⟩
  calc rd s ((i / 4 : Nat) : Int) * 127 * ((rd r (i : Int)).natAbs : Int) ≤ 16129 * ((rd r (i : Int)).natAbs : Int) := Int.mul_le_mul_of_nonneg_right p1 (by omega)
    _ ≤ 129032 := by omega
theorem wst_bd (r s : List Int) (h : rowB r s = true) : ∀ n, n ≤ r.length → 0 ≤ wstTo r s n ∧ wstTo r s n ≤ 129032 * (n : Int)
  | 0, _ => by unfold wstTo; omega
  | n + 1, hn => by
    have ih := wst_bd r s h n (by omega)
    obtain ⟨_, _, _, ht⟩ := wst_term r s h n (by omega)
    unfold wstTo
    omega
theorem spec_abs (x : Int) (h0 : -8 ≤ x) (h1 : x ≤ 7) : spec_l05Abs.f x = some (x.natAbs : Int) := by
  unfold spec_l05Abs.f
  by_cases c : x < 0
  · rw [if_pos c, w64 (by omega) (by omega)]; congr 1; omega
  · rw [if_neg c]; congr 1; omega
theorem impl_abs (x : Int) (h0 : -8 ≤ x) (h1 : x ≤ 7) : mx x (wrap64 (-x)) = (x.natAbs : Int) := by
  unfold mx
  rw [w64 (by omega) (by omega)]
  by_cases c : x < -x
  · rw [if_pos c]; omega
  · rw [if_neg c]; omega
theorem spec_wst_from (r s : List Int) (h : rowB r s = true) (d : Nat) : ∀ (k i : Nat), i + d = r.length → d < k → spec_Worst.l0 k r s (wstTo r s i) (i : Int) = some (wstTo r s r.length) := by
  obtain ⟨h1, h2, h3, h4⟩ := row_facts r s h
  induction d with
  | zero =>
    intro k i hi hk
    obtain ⟨k, rfl⟩ : ∃ m, k = m + 1 := ⟨k - 1, by omega⟩
    obtain rfl : i = r.length := by omega
    rw [spec_Worst.l0, if_neg (by omega)]
  | succ d ih =>
    intro k i hi hk
    obtain ⟨k, rfl⟩ : ∃ m, k = m + 1 := ⟨k - 1, by omega⟩
    obtain ⟨t1, t2, t3, t4, t5⟩ := wst_term r s h i (by omega)
    have hs := wst_bd r s h i (by omega)
    have b := h2 _ (rd_mem r i (by omega))
    rw [spec_Worst.l0, if_pos (by omega), tdiv4, w64 (i := ((i / 4 : Nat) : Int)) (by omega) (by omega), if_pos (by omega), if_pos (by omega), if_pos (by omega), spec_abs _ b.1 b.2, Option.bind_some, w64 (i := rd s ((i / 4 : Nat) : Int) * 127) (by omega) (by omega), w64 (i := rd s ((i / 4 : Nat) : Int) * 127 * _) (by omega) (by omega), w64 (i := wstTo r s i + _) (by omega) (by omega), w64 (i := (i : Int) + 1) (by omega) (by omega), show ((i : Int) + 1) = ((i + 1 : Nat) : Int) by omega]
    exact ih k (i + 1) (by omega) (by omega)
theorem impl_wst_from (r s : List Int) (h : rowB r s = true) (d : Nat) : ∀ (k i : Nat), i + d = r.length → d < k → impl_Worst.l0 k s (wstTo r s i) r (r.length : Int) (i : Int) = some (wstTo r s r.length) := by
  obtain ⟨h1, h2, h3, h4⟩ := row_facts r s h
  induction d with
  | zero =>
    intro k i hi hk
    obtain ⟨k, rfl⟩ : ∃ m, k = m + 1 := ⟨k - 1, by omega⟩
    obtain rfl : i = r.length := by omega
    rw [impl_Worst.l0, if_neg (by omega)]
  | succ d ih =>
    intro k i hi hk
    obtain ⟨k, rfl⟩ : ∃ m, k = m + 1 := ⟨k - 1, by omega⟩
    obtain ⟨t1, t2, t3, t4, t5⟩ := wst_term r s h i (by omega)
    have hs := wst_bd r s h i (by omega)
    have b := h2 _ (rd_mem r i (by omega))
    rw [impl_Worst.l0, if_pos (by omega), if_pos (by omega), if_pos (by omega), tdiv4, w64 (i := ((i / 4 : Nat) : Int)) (by omega) (by omega), if_pos (by omega), if_pos (by omega), impl_abs _ b.1 b.2, w64 (i := rd s ((i / 4 : Nat) : Int) * 127) (by omega) (by omega), w64 (i := rd s ((i / 4 : Nat) : Int) * 127 * _) (by omega) (by omega), w64 (i := wstTo r s i + _) (by omega) (by omega), w64 (i := (i : Int) + 1) (by omega) (by omega), show ((i : Int) + 1) = ((i + 1 : Nat) : Int) by omega]
    exact ih k (i + 1) (by omega) (by omega)
theorem spec_wst (r s : List Int) (hr : r.length ≤ 9223372036854775806) (hs : s.length ≤ 9223372036854775806) (k : Nat) (hk : r.length + s.length < k) (hk2 : 10 < k) : spec_Worst.f k r s = some (wst r s) := by
  unfold spec_Worst.f wst
  rw [spec_row r s hr hs k hk, Option.bind_some]
  by_cases h : rowB r s = true
  · obtain ⟨h1, h2, h3, h4⟩ := row_facts r s h
    rw [if_pos h, if_pos h]; exact spec_wst_from r s h r.length k 0 (by omega) (by omega)
  · rw [if_neg h, if_neg h]
theorem impl_wst (r s : List Int) (hr : r.length ≤ 9223372036854775807) (k : Nat) (hk2 : 10 < k) : impl_Worst.f k r s = some (wst r s) := by
  unfold impl_Worst.f wst
  rw [impl_row r s hr, Option.bind_some]
  by_cases h : rowB r s = true
  · obtain ⟨h1, h2, h3, h4⟩ := row_facts r s h
    rw [if_pos h, if_pos h]; exact impl_wst_from r s h r.length k 0 (by omega) (by omega)
  · rw [if_neg h, if_neg h]
theorem getD_mem (R : List (List Int)) (i : Nat) (h : i < R.length) : R.getD i [] ∈ R := by rw [List.getD_eq_getElem?_getD, List.getElem?_eq_getElem h]; exact List.getElem_mem _
theorem spec_mat_from (w : Int) (R S : List (List Int)) (m h : Int) (hl : R.length ≤ 300) (hs : S.length = R.length) (hR : ∀ r ∈ R, r.length ≤ 1048576) (hS : ∀ r ∈ S, r.length ≤ 1048576) (d : Nat) : ∀ (k i : Nat), i + d = R.length → d + 2097153 < k →
    spec_MatrixOk.l0 k (i : Int) w R S m h = some (((List.range R.length).drop i).all fun i => decide (((R.getD i []).length : Int) = w) && rowB (R.getD i []) (S.getD i [])) := by
  induction d with
  | zero =>
    intro k i hi hk
    obtain ⟨k, rfl⟩ : ∃ m, k = m + 1 := ⟨k - 1, by omega⟩
    rw [spec_MatrixOk.l0, if_neg (by omega), List.drop_of_length_le (by simp; omega)]; rfl
  | succ d ih =>
    intro k i hi hk
    obtain ⟨k, rfl⟩ : ∃ m, k = m + 1 := ⟨k - 1, by omega⟩
    have m1 := hR _ (getD_mem R i (by omega))
    have m2 := hS _ (getD_mem S i (by omega))
    rw [spec_MatrixOk.l0, if_pos (by omega), if_pos (by omega), all_range_from _ _ i (by omega)]
    show (if ((R.getD (i : Int).toNat []).length : Int) = w then _ else _) = _
    rw [Int.toNat_natCast]
    by_cases h1 : ((R.getD i []).length : Int) = w
    · rw [if_pos h1, if_pos (by omega), decide_eq_true h1]
      show ((spec_l05Fits.f k (R.getD (i : Int).toNat []) (S.getD (i : Int).toNat [])).bind _) = _
      rw [Int.toNat_natCast, spec_row _ _ (by omega) (by omega) k (by omega), Option.bind_some, w64 (by omega) (by omega), show ((i : Int) + 1) = ((i + 1 : Nat) : Int) by omega]
      cases hr : rowB (R.getD i []) (S.getD i []) with
      | true => rw [if_pos rfl, ih k (i + 1) (by omega) (by omega)]; rfl
      | false => rfl
    · rw [if_neg h1, decide_eq_false h1]; rfl
theorem spec_mat (w : Int) (R S : List (List Int)) (m h : Int) (hR : ∀ r ∈ R, r.length ≤ 1048576) (hS : ∀ r ∈ S, r.length ≤ 1048576) (k : Nat) (hk : 3000000 < k) : spec_MatrixOk.f k w R S m h = some (matB w R S m h) := by
  obtain ⟨k, rfl⟩ : ∃ m, k = m + 1 := ⟨k - 1, by omega⟩
  unfold spec_MatrixOk.f spec_l01In.f matB
  rw [spec_width, Option.bind_some]
  cases h1 : widthB w with
  | false => rw [if_neg (by simp), spec_MatrixOk.j0, if_pos rfl]; rfl
  | true =>
    rw [if_pos rfl]
    by_cases h2 : R.length ≤ 300
    · rw [if_neg (by omega), decide_eq_true h2]
      by_cases h3 : S.length = R.length
      · rw [if_pos (by omega), decide_eq_true h3]
        by_cases h4 : 0 ≤ m
        · rw [if_pos h4, Option.bind_some, decide_eq_true h4]
          by_cases h5 : m ≤ 65536
          · rw [decide_eq_true h5, if_pos rfl]
            by_cases h6 : 0 ≤ h
            · rw [if_pos h6, Option.bind_some, decide_eq_true h6]
              by_cases h7 : h ≤ 24
              · rw [decide_eq_true h7, spec_MatrixOk.j0, if_neg (by simp)]
                have := spec_mat_from w R S m h h2 h3 hR hS R.length k 0 (by omega) (by omega)
                rw [List.drop_zero] at this
                exact this
              · rw [decide_eq_false h7, spec_MatrixOk.j0, if_pos (by rfl)]; rfl
            · rw [if_neg h6, Option.bind_some, spec_MatrixOk.j0, if_pos (by rfl), decide_eq_false h6]; rfl
          · rw [decide_eq_false h5, if_neg (by simp), spec_MatrixOk.j0, if_pos rfl]; rfl
        · rw [if_neg h4, Option.bind_some, if_neg (by simp), spec_MatrixOk.j0, if_pos rfl, decide_eq_false h4]; rfl
      · rw [if_neg (by omega), spec_MatrixOk.j0, if_pos rfl, decide_eq_false h3]; rfl
    · rw [if_pos (by omega), spec_MatrixOk.j0, if_pos rfl, decide_eq_false h2]; rfl
/-- every row of a matrix comes to little enough. -/
def lowB (R S : List (List Int)) (i : Nat) : Bool := ((List.range R.length).drop i).all fun i => decide (wst (R.getD i []) (S.getD i []) ≤ 600000)
theorem spec_low_from (w : Int) (R S : List (List Int)) (m h : Int) (hl : R.length ≤ 300) (hs : S.length = R.length) (hR : ∀ r ∈ R, r.length ≤ 1048576) (hS : ∀ r ∈ S, r.length ≤ 1048576) (d : Nat) : ∀ (k i : Nat) (x : Int), i + d = R.length → d + 2097153 < k →
    ∃ v, spec_l10Worst.l0 k x (i : Int) w R S m h = some v ∧ (v ≤ 600000 ↔ x ≤ 600000 ∧ lowB R S i = true) := by
  induction d with
  | zero =>
    intro k i x hi hk
    obtain ⟨k, rfl⟩ : ∃ m, k = m + 1 := ⟨k - 1, by omega⟩
    rw [spec_l10Worst.l0, if_neg (by omega)]
    exact ⟨x, rfl, by unfold lowB; rw [List.drop_of_length_le (by simp; omega)]; simp⟩
  | succ d ih =>
    intro k i x hi hk
    obtain ⟨k, rfl⟩ : ∃ m, k = m + 1 := ⟨k - 1, by omega⟩
    have m1 := hR _ (getD_mem R i (by omega))
    have m2 := hS _ (getD_mem S i (by omega))
    rw [spec_l10Worst.l0, if_pos (by omega), if_pos (by omega), if_pos (by omega)]
    show ∃ v, ((spec_Worst.f k (R.getD (i : Int).toNat []) (S.getD (i : Int).toNat [])).bind _) = some v ∧ _
    rw [Int.toNat_natCast, spec_wst _ _ (by omega) (by omega) k (by omega) (by omega), Option.bind_some, w64 (by omega) (by omega), show ((i : Int) + 1) = ((i + 1 : Nat) : Int) by omega]
    have e : lowB R S i = (decide (wst (R.getD i []) (S.getD i []) ≤ 600000) && lowB R S (i + 1)) := by unfold lowB; rw [all_range_from _ _ i (by omega)]
    rw [e, Bool.and_eq_true, decide_eq_true_eq]
    by_cases c : wst (R.getD i []) (S.getD i []) > x
    · rw [if_pos c]
      obtain ⟨v, h1, h2⟩ := ih k (i + 1) (wst (R.getD i []) (S.getD i [])) (by omega) (by omega)
      exact ⟨v, h1, by rw [h2]; constructor <;> intro g <;> (obtain ⟨g1, g2⟩ := g; first | exact ⟨by omega, g1, g2⟩ | exact ⟨g2.1, g2.2⟩)⟩
    · rw [if_neg c]
      obtain ⟨v, h1, h2⟩ := ih k (i + 1) x (by omega) (by omega)
      exact ⟨v, h1, by rw [h2]; constructor <;> intro g <;> (obtain ⟨g1, g2⟩ := g; first | exact ⟨g1, by omega, g2⟩ | exact ⟨g1, g2.2⟩)⟩
theorem impl_low_from (w : Int) (R S : List (List Int)) (m h : Int) (hl : R.length ≤ 300) (hs : S.length = R.length) (hR : ∀ r ∈ R, r.length ≤ 1048576) (d : Nat) : ∀ (k i : Nat), i + d = R.length → d + 20 < k →
    impl_withinBudget.l0 k R (R.length : Int) (i : Int) w R S m h = some (lowB R S i) := by
  induction d with
  | zero =>
    intro k i hi hk
    obtain ⟨k, rfl⟩ : ∃ m, k = m + 1 := ⟨k - 1, by omega⟩
    rw [impl_withinBudget.l0, if_neg (by omega)]
    unfold lowB; rw [List.drop_of_length_le (by simp; omega)]; rfl
  | succ d ih =>
    intro k i hi hk
    obtain ⟨k, rfl⟩ : ∃ m, k = m + 1 := ⟨k - 1, by omega⟩
    have m1 := hR _ (getD_mem R i (by omega))
    rw [impl_withinBudget.l0, if_pos (by omega), if_pos (by omega), if_pos (by omega), if_pos (by omega)]
    show ((impl_Worst.f k (R.getD (i : Int).toNat []) (S.getD (i : Int).toNat [])).bind _) = _
    rw [Int.toNat_natCast, impl_wst _ _ (by omega) k (by omega), Option.bind_some, w64 (by omega) (by omega), show ((i : Int) + 1) = ((i + 1 : Nat) : Int) by omega]
    have e : lowB R S i = (decide (wst (R.getD i []) (S.getD i []) ≤ 600000) && lowB R S (i + 1)) := by unfold lowB; rw [all_range_from _ _ i (by omega)]
    rw [e]
    by_cases c : wst (R.getD i []) (S.getD i []) > 600000
    · rw [if_pos c, decide_eq_false (by omega)]; rfl
    · rw [if_neg c, decide_eq_true (by omega), Bool.true_and, ih k (i + 1) (by omega) (by omega)]
/-- a matrix of these bounds, of which every row comes to little enough. -/
def fitB (w : Int) (R S : List (List Int)) (m h a b : Int) : Bool := matB w R S m h && (decide (w = a) && (decide ((R.length : Int) = b) && lowB R S 0))
theorem spec_fit (w : Int) (R S : List (List Int)) (m h a b : Int) (hR : ∀ r ∈ R, r.length ≤ 1048576) (hS : ∀ r ∈ S, r.length ≤ 1048576) (k : Nat) (hk : 3000000 < k) : spec_l10Matrix.g k ⟨w, R, S, m, h⟩ a b = some (fitB w R S m h a b) := by
  unfold spec_l10Matrix.g fitB
  rw [spec_mat w R S m h hR hS k hk, Option.bind_some]
  by_cases h1 : matB w R S m h = true
  · obtain ⟨f1, f2, f3, _⟩ := mat_facts w R S m h h1
    rw [if_pos h1, h1, Bool.true_and]
    by_cases h2 : w = a
    · rw [if_pos h2, decide_eq_true h2, Bool.true_and]
      by_cases h3 : (R.length : Int) = b
      · rw [if_pos h3, decide_eq_true h3, Bool.true_and]
        obtain ⟨v, e1, e2⟩ := spec_low_from w R S m h f2 f3 hR hS R.length k 0 0 (by omega) (by omega)
        unfold spec_l10Worst.f
        rw [show (0 : Int) = ((0 : Nat) : Int) from rfl] at e1 ⊢
        rw [e1, Option.bind_some]
        congr 1
        cases g : lowB R S 0 with
        | true => exact decide_eq_true (e2.2 ⟨by omega, g⟩)
        | false => exact decide_eq_false (fun g2 => by have := (e2.1 g2).2; rw [g] at this; cases this)
      · rw [if_neg h3, decide_eq_false h3]; rfl
    · rw [if_neg h2, decide_eq_false h2]; rfl
  · rw [if_neg h1, Bool.eq_false_iff.mpr h1]; rfl
theorem impl_fit (w : Int) (R S : List (List Int)) (m h a b : Int) (hl : R.length ≤ 9223372036854775807) (hR : ∀ r ∈ R, r.length ≤ 1048576) (k : Nat) (hk : 1000 < k) : impl_withinBudget.f k w R S m h a b = some (fitB w R S m h a b) := by
  obtain ⟨k, rfl⟩ : ∃ m, k = m + 1 := ⟨k - 1, by omega⟩
  unfold impl_withinBudget.f fitB
  rw [impl_mat w R S m h hl (fun r hr => by have := hR r hr; omega) (k + 1) (by omega), Option.bind_some]
  by_cases h1 : matB w R S m h = true
  · obtain ⟨f1, f2, f3, _⟩ := mat_facts w R S m h h1
    rw [if_pos h1, h1, Bool.true_and]
    by_cases h2 : w = a
    · rw [if_pos h2, decide_eq_true h2, Bool.true_and, impl_withinBudget.j0]
      by_cases h3 : (R.length : Int) = b
      · rw [if_neg (by simp [h3]), decide_eq_true h3, Bool.true_and]
        exact impl_low_from w R S m h f2 f3 hR R.length k 0 (by omega) (by omega)
      · rw [if_pos (by simp [h3]), decide_eq_false h3]; rfl
    · rw [if_neg h2, decide_eq_false h2, impl_withinBudget.j0, if_pos rfl]; rfl
  · rw [if_neg h1, Bool.eq_false_iff.mpr h1, impl_withinBudget.j0, if_pos rfl]; rfl

theorem spec_gain (l : List Int) (n : Int) (hl : l.length ≤ 1048576) (k : Nat) (hk : l.length < k) : spec_GainOk.f k l n = impl_GainOk.f l n := by
  unfold spec_GainOk.f impl_GainOk.f impl_allIn.f
  rw [all_tells 0 127 l (by omega) k hk]
def gainB (l : List Int) (n : Int) : Bool := if (l.length : Int) = n then l.all fun x => decide (0 ≤ x) && decide (x ≤ 127) else false
theorem impl_gainB (l : List Int) (n : Int) : impl_GainOk.f l n = some (gainB l n) := by
  unfold impl_GainOk.f impl_allIn.f gainB
  split <;> rfl
theorem spec_gainB (l : List Int) (n : Int) (hl : l.length ≤ 1048576) (k : Nat) (hk : l.length < k) : spec_GainOk.f k l n = some (gainB l n) := by rw [spec_gain l n hl k hk, impl_gainB]

theorem getD_int {α : Type} (l : List α) (z : α) (i : Nat) (h : i < l.length) : l.getD (i : Int).toNat z = l[i] := by simp [List.getD_eq_getElem?_getD, h]
/-- what the parts of a list come to. -/
def sumS {α : Type} (s : α → Nat) : List α → Nat
  | [] => 0
  | x :: l => s x + sumS s l
theorem sumS_le {α : Type} (s : α → Nat) : ∀ (l : List α) (x : α), x ∈ l → s x ≤ sumS s l
  | [], _, h => by cases h
  | y :: l, x, h => by
    have e : sumS s (y :: l) = s y + sumS s l := rfl
    rcases List.mem_cons.mp h with g | g
    · rw [g, e]; omega
    · have := sumS_le s l x g; rw [e]; omega
theorem sumS_cons {α : Type} (s : α → Nat) (x : α) (l : List α) : sumS s (x :: l) = s x + sumS s l := rfl
/-- a list's size: its length and its parts'. -/
def szL {α : Type} (s : α → Nat) (l : List α) : Nat := l.length + sumS s l
section
variable {α : Type} (z : α) (F : Nat → List α → Int → Int → Option Int) (E : Nat → α → Int → Option Int) (s : α → Nat) (ok : α → Prop)
end
section
variable {α β γ : Type} (z : α) (zb : β) (F : Nat → List α → List β → Int → Option (List β)) (E : Nat → α → Option γ) (c : γ → β) (g : α → β) (s : α → Nat) (ok : α → Prop)
end
section
variable {α : Type} (z : α) (F : Nat → List α → List α → Int → Option Bool) (E : Nat → α → Option Bool) (s : α → Nat)
end

def mIntss : List (List Int) → Nat := szL (fun l => l.length)
theorem mIntss_eq (x : List (List Int)) : mIntss x = x.length + sumS (fun l => l.length) x := rfl
theorem sumS_map_sum (x : List (List Int)) : sumS (fun l : List Int => l.length) x = (x.map List.length).sum := by
  induction x with
  | nil => rfl
  | cons a x ih => rw [sumS_cons, ih, List.map_cons, List.sum_cons]

def iMatrix (x : S36) : Nat := mIntss x.f1 + mIntss x.f2
def iLayer (x : S48) : Nat := x.f0.length + (iMatrix x.f1 + (iMatrix x.f2 + (iMatrix x.f3 + (iMatrix x.f4 + (x.f5.length + (iMatrix x.f6 + iMatrix x.f7))))))
theorem mat_rows (x : S36) (h : iMatrix x ≤ 1048576) : x.f1.length ≤ 1048576 ∧ (∀ r ∈ x.f1, r.length ≤ 1048576) ∧ ∀ r ∈ x.f2, r.length ≤ 1048576 := by
  unfold iMatrix at h
  have e1 := mIntss_eq x.f1
  have e2 := mIntss_eq x.f2
  unfold szL at e1 e2
  refine ⟨by omega, fun r hr => ?_, fun r hr => ?_⟩
  · have := sumS_le (fun l : List Int => l.length) x.f1 r hr; omega
  · have := sumS_le (fun l : List Int => l.length) x.f2 r hr; omega
def mfit (x : S36) (a b : Int) : Bool := fitB x.f0 x.f1 x.f2 x.f3 x.f4 a b
theorem spec_mfit (x : S36) (a b : Int) (h : iMatrix x ≤ 1048576) (k : Nat) (hk : 3000000 < k) : spec_l10Matrix.g k x a b = some (mfit x a b) := by
  obtain ⟨h1, h2, h3⟩ := mat_rows x h
  exact spec_fit _ _ _ _ _ _ _ h2 h3 k hk
theorem impl_mfit (x : S36) (a b : Int) (h : iMatrix x ≤ 1048576) (k : Nat) (hk : 1000 < k) : impl_withinBudget.f k x.f0 x.f1 x.f2 x.f3 x.f4 a b = some (mfit x a b) := by
  obtain ⟨h1, h2, h3⟩ := mat_rows x h
  exact impl_fit _ _ _ _ _ _ _ (by omega) h2 k hk
def layerB (x : S48) (n : Int) : Bool := gainB x.f0 n && (gainB x.f5 n && (widthB (x.f6.f1.length : Int) && (mfit x.f1 n n && (mfit x.f2 n n && (mfit x.f3 n n && (mfit x.f4 n n && (mfit x.f6 n (x.f6.f1.length : Int) && mfit x.f7 (x.f6.f1.length : Int) n)))))))
theorem mfit_width (x : S36) (a b : Int) (h : mfit x a b = true) : widthB a = true := by
  unfold mfit fitB at h
  simp only [Bool.and_eq_true, decide_eq_true_eq] at h
  obtain ⟨h1, h2, _⟩ := h
  unfold matB at h1
  simp only [Bool.and_eq_true] at h1
  rw [← h2]; exact h1.1.1.1.1.1.1.1
theorem if_and (a : Bool) (b : Option Bool) (c : Bool) (h : a = true → b = some c) : (if a = true then b else some false) = some (a && c) := by
  cases a with
  | false => rfl
  | true => rw [if_pos rfl, h rfl]; rfl
theorem bind_and (p : Option Bool) (a : Bool) (b : Option Bool) (c : Bool) (hp : p = some a) (h : a = true → b = some c) : (p.bind fun t => if t = true then b else some false) = some (a && c) := by
  rw [hp, Option.bind_some]; exact if_and a b c h
theorem spec_layer (x : S48) (n : Int) (h : iLayer x ≤ 1048576) (k : Nat) (hk : 3000000 < k) : spec_LayerOk.g k x n = some (layerB x n) := by
  have e : iLayer x = x.f0.length + (iMatrix x.f1 + (iMatrix x.f2 + (iMatrix x.f3 + (iMatrix x.f4 + (x.f5.length + (iMatrix x.f6 + iMatrix x.f7)))))) := rfl
  have g : spec_LayerOk.g k x n = some (widthB n && (widthB (x.f6.f1.length : Int) && (gainB x.f0 n && (gainB x.f5 n && (mfit x.f1 n n && (mfit x.f2 n n && (mfit x.f3 n n && (mfit x.f4 n n && (mfit x.f6 n (x.f6.f1.length : Int) && mfit x.f7 (x.f6.f1.length : Int) n))))))))) := by
    unfold spec_LayerOk.g
    refine bind_and _ _ _ _ (spec_width n) fun _ => bind_and _ _ _ _ (spec_width _) fun _ => bind_and _ _ _ _ (spec_gainB x.f0 n (by omega) k (by omega)) fun _ => bind_and _ _ _ _ (spec_gainB x.f5 n (by omega) k (by omega)) fun _ => bind_and _ _ _ _ (spec_mfit x.f1 n n (by omega) k hk) fun _ =>
      bind_and _ _ _ _ (spec_mfit x.f2 n n (by omega) k hk) fun _ => bind_and _ _ _ _ (spec_mfit x.f3 n n (by omega) k hk) fun _ => bind_and _ _ _ _ (spec_mfit x.f4 n n (by omega) k hk) fun _ => bind_and _ _ _ _ (spec_mfit x.f6 n _ (by omega) k hk) fun _ => ?_
    rw [spec_mfit x.f7 _ n (by omega) k hk, Option.bind_some]
  rw [g]
  unfold layerB
  congr 1
  cases h1 : mfit x.f1 n n with
  | false => simp
  | true => rw [mfit_width _ _ _ h1]; cases gainB x.f0 n <;> cases gainB x.f5 n <;> cases widthB (x.f6.f1.length : Int) <;> rfl
theorem impl_four (x : S48) (n : Int) (h : iLayer x ≤ 1048576) (rest : Option Bool) (c : Bool) (hr : rest = some c) (k : Nat) (hk : 2000 < k) :
    (impl_LayerOk.l0 x n k 0).bind (fun o => match o with | .inl r_ => some r_ | .inr _ => rest) = some (mfit x.f1 n n && (mfit x.f2 n n && (mfit x.f3 n n && (mfit x.f4 n n && c)))) := by
  have e : iLayer x = x.f0.length + (iMatrix x.f1 + (iMatrix x.f2 + (iMatrix x.f3 + (iMatrix x.f4 + (x.f5.length + (iMatrix x.f6 + iMatrix x.f7)))))) := rfl
  obtain ⟨k, rfl⟩ : ∃ m, k = m + 5 := ⟨k - 5, by omega⟩
  have step : ∀ (k i : Nat) (m : S36) (d : Bool), i < 4 → [x.f1, x.f2, x.f3, x.f4].getD i o36 = m → iMatrix m ≤ 1048576 → 1000 < k →
      (impl_LayerOk.l0 x n k ((i + 1 : Nat) : Int)).bind (fun o => match o with | .inl r_ => some r_ | .inr _ => rest) = some d → (impl_LayerOk.l0 x n (k + 1) (i : Int)).bind (fun o => match o with | .inl r_ => some r_ | .inr _ => rest) = some (mfit m n n && d) := by
    intro k i m d hi hm hM hk hd
    unfold impl_LayerOk.l0 impl_LayerOk.b0
    rw [if_pos (by omega), if_pos (by omega), Int.toNat_natCast, hm, impl_mfit m n n hM k hk, Option.bind_some, w64 (by omega) (by omega), show ((i : Int) + 1) = ((i + 1 : Nat) : Int) by omega]
    cases mfit m n n with
    | false => rfl
    | true => rw [if_pos rfl, hd]; rfl
  refine step (k + 4) 0 x.f1 _ (by omega) rfl (by omega) (by omega) ?_
  refine step (k + 3) 1 x.f2 _ (by omega) rfl (by omega) (by omega) ?_
  refine step (k + 2) 2 x.f3 _ (by omega) rfl (by omega) (by omega) ?_
  refine step (k + 1) 3 x.f4 _ (by omega) rfl (by omega) (by omega) ?_
  unfold impl_LayerOk.l0 impl_LayerOk.b0
  rw [if_neg (by omega), hr]; rfl
theorem impl_layer (x : S48) (n : Int) (h : iLayer x ≤ 1048576) (k : Nat) (hk : 2000 < k) : impl_LayerOk.g k x n = some (layerB x n) := by
  have e : iLayer x = x.f0.length + (iMatrix x.f1 + (iMatrix x.f2 + (iMatrix x.f3 + (iMatrix x.f4 + (x.f5.length + (iMatrix x.f6 + iMatrix x.f7)))))) := rfl
  unfold impl_LayerOk.g layerB
  refine bind_and _ _ _ _ (impl_gainB x.f0 n) fun _ => bind_and _ _ _ _ (impl_gainB x.f5 n) fun _ => bind_and _ _ _ _ (impl_width _) fun _ => ?_
  refine impl_four x n h _ _ (bind_and _ _ _ _ (impl_mfit x.f6 n _ (by omega) k (by omega)) fun _ => ?_) k hk
  rw [impl_mfit x.f7 _ n (by omega) k (by omega), Option.bind_some]

section
variable {α β : Type} (z : α) (zb : β) (l : List α) (L : Nat → Int → List β → Option (Int × List β)) (E : Nat → α → Option β) (g : α → β) (s : α → Nat)
end
section
variable {α : Type} (z : α) (l : List α) (L : Nat → Int → Option (Bool ⊕ Int)) (E : Nat → α → Option Bool) (s : α → Nat)
end
def iLayers : List S48 → Nat := szL iLayer
def iModel (x : S39) : Nat := x.f3.length + (mIntss x.f4 + (iLayers x.f5 + (x.f6.length + (iMatrix x.f7 + (mIntss x.f8.f0 + mIntss x.f8.f1)))))
theorem all_range {α : Type} (P : α → Bool) (z : α) (R : List α) : R.all P = (List.range R.length).all fun p => P (R.getD p z) := by
  rw [Bool.eq_iff_iff, List.all_eq_true, List.all_eq_true]
  constructor
  · intro h p hp
    have := List.mem_range.1 hp
    rw [List.getD_eq_getElem?_getD, List.getElem?_eq_getElem this]; exact h _ (List.getElem_mem _)
  · intro h x hx
    obtain ⟨p, hp, rfl⟩ := List.mem_iff_getElem.1 hx
    have := h p (List.mem_range.2 hp)
    rwa [List.getD_eq_getElem?_getD, List.getElem?_eq_getElem hp] at this
theorem all_drop (P : Nat → Bool) (n i : Nat) (h : i < n) : ((List.range n).drop i).all P = (P i && ((List.range n).drop (i + 1)).all P) := by
  rw [List.drop_eq_getElem_cons (by simpa using h), List.all_cons, List.getElem_range]
theorem all_both (P Q : Nat → Bool) (l : List Nat) : (l.all fun i => P i && Q i) = (l.all P && l.all Q) := by
  rw [Bool.eq_iff_iff, Bool.and_eq_true, List.all_eq_true, List.all_eq_true, List.all_eq_true]
  constructor
  · intro h; exact ⟨fun x hx => (Bool.and_eq_true_iff.1 (h x hx)).1, fun x hx => (Bool.and_eq_true_iff.1 (h x hx)).2⟩
  · intro h x hx; rw [h.1 x hx, h.2 x hx]; rfl
def rowT (n : Int) (l : List Int) : Bool := decide ((l.length : Int) = n) && l.all fun x => decide (-128 ≤ x) && decide (x ≤ 128)
def turnsB (R S : List (List Int)) (a n : Int) : Bool := (decide (4 ≤ a) && decide (a ≤ 24)) && ((decide (1 ≤ n) && decide (n ≤ 4)) && ((decide ((R.length : Int) = a) && R.all (rowT n)) && (decide ((S.length : Int) = a) && S.all (rowT n))))
theorem impl_turns (R S : List (List Int)) (a n : Int) : impl_TurnsOk.f R S a n = some (turnsB R S a n) := by
  unfold impl_TurnsOk.f impl_in.f turnsB
  by_cases h1 : 4 ≤ a
  · rw [if_pos h1, Option.bind_some, decide_eq_true h1]
    by_cases h2 : a ≤ 24
    · rw [decide_eq_true h2, if_pos rfl]
      by_cases h3 : 1 ≤ n
      · rw [if_pos h3, Option.bind_some, decide_eq_true h3]
        by_cases h4 : n ≤ 4
        · rw [decide_eq_true h4, if_pos rfl]
          have e : ∀ T : List (List Int), impl_turnLists.f T a n = some (decide ((T.length : Int) = a) && T.all (rowT n)) := fun T => rfl
          rw [e R, e S, Option.bind_some]
          cases decide ((R.length : Int) = a) && R.all (rowT n) with
          | false => rfl
          | true => rw [if_pos rfl, Option.bind_some]; rfl
        · rw [decide_eq_false h4, if_neg (by simp)]; rfl
      · rw [if_neg h3, Option.bind_some, if_neg (by simp), decide_eq_false h3]; rfl
    · rw [decide_eq_false h2, if_neg (by simp)]; rfl
  · rw [if_neg h1, Option.bind_some, if_neg (by simp), decide_eq_false h1]; rfl
theorem spec_turns_from (R S : List (List Int)) (a : Nat) (n : Int) (hR : R.length = a) (hS : S.length = a) (ha : a ≤ 24) (hn : 1 ≤ n ∧ n ≤ 4) (d : Nat) : ∀ (k i : Nat), i + d = a → d + 10 < k →
    spec_TurnsOk.l0 k (a : Int) n (i : Int) R S = some (((List.range a).drop i).all fun p => rowT n (R.getD p []) && rowT n (S.getD p [])) := by
  induction d with
  | zero =>
    intro k i hi hk
    obtain ⟨k, rfl⟩ : ∃ m, k = m + 1 := ⟨k - 1, by omega⟩
    rw [spec_TurnsOk.l0, if_neg (by omega), List.drop_of_length_le (by simp; omega)]; rfl
  | succ d ih =>
    intro k i hi hk
    obtain ⟨k, rfl⟩ : ∃ m, k = m + 1 := ⟨k - 1, by omega⟩
    have e : ∀ T : List (List Int), rd_L3 T (i : Int) = T.getD i [] := fun T => by show T.getD (i : Int).toNat [] = _; rw [Int.toNat_natCast]
    rw [spec_TurnsOk.l0, if_pos (by omega), if_pos (by omega), if_pos (by omega), all_drop _ _ i (by omega), e R, e S]
    unfold rowT
    by_cases h1 : ((R.getD i []).length : Int) = n
    · rw [if_pos h1, if_pos (by omega), decide_eq_true h1, Bool.true_and]
      by_cases h2 : ((S.getD i []).length : Int) = n
      · rw [if_pos h2, decide_eq_true h2, Bool.true_and, all_tells _ _ _ (by omega) k (by omega), all_tells _ _ _ (by omega) k (by omega), Option.bind_some]
        cases (R.getD i []).all fun x => decide (-128 ≤ x) && decide (x ≤ 128) with
        | false => rfl
        | true =>
          rw [if_pos rfl, Option.bind_some]
          cases (S.getD i []).all fun x => decide (-128 ≤ x) && decide (x ≤ 128) with
          | false => rfl
          | true => rw [if_pos rfl, w64 (by omega) (by omega), show ((i : Int) + 1) = ((i + 1 : Nat) : Int) by omega, ih k (i + 1) (by omega) (by omega)]; rfl
      · rw [if_neg h2, decide_eq_false h2]; simp
    · rw [if_neg h1, decide_eq_false h1]; rfl
theorem spec_turns (R S : List (List Int)) (a n : Int) (k : Nat) (hk : 100 < k) : spec_TurnsOk.f k R S a n = some (turnsB R S a n) := by
  obtain ⟨k, rfl⟩ : ∃ m, k = m + 1 := ⟨k - 1, by omega⟩
  unfold spec_TurnsOk.f spec_l01In.f turnsB
  by_cases h1 : 4 ≤ a
  · rw [if_pos h1, Option.bind_some, decide_eq_true h1]
    by_cases h2 : a ≤ 24
    · rw [decide_eq_true h2, if_pos rfl]
      by_cases h3 : 1 ≤ n
      · rw [if_pos h3, Option.bind_some, decide_eq_true h3]
        by_cases h4 : n ≤ 4
        · rw [decide_eq_true h4, if_pos rfl]
          by_cases h5 : (R.length : Int) = a
          · rw [if_pos h5, decide_eq_true h5, spec_TurnsOk.j0]
            by_cases h6 : (S.length : Int) = a
            · rw [if_neg (by simp [h6]), decide_eq_true h6]
              have g := spec_turns_from R S R.length n rfl (by omega) (by omega) ⟨h3, h4⟩ R.length k 0 (by omega) (by omega)
              rw [← h5]
              refine g.trans ?_
              have hl : S.length = R.length := by omega
              rw [List.drop_zero, all_both, all_range (rowT n) [] R, all_range (rowT n) [] S, hl]
              simp
            · rw [if_pos (by simp [h6]), decide_eq_false h6]; simp
          · rw [if_neg h5, decide_eq_false h5, spec_TurnsOk.j0, if_pos rfl]; simp
        · rw [decide_eq_false h4, if_neg (by simp), spec_TurnsOk.j0, if_pos rfl]; simp
      · rw [if_neg h3, Option.bind_some, if_neg (by simp), decide_eq_false h3, spec_TurnsOk.j0, if_pos rfl]; simp
    · rw [decide_eq_false h2, if_neg (by simp), spec_TurnsOk.j0, if_pos rfl]; simp
  · rw [if_neg h1, Option.bind_some, if_neg (by simp), decide_eq_false h1, spec_TurnsOk.j0, if_pos rfl]; simp

def atM (l : List S112) (i : Nat) : S112 := l.getD i z112
def sameM (a b : S112) : Bool := a.f0 == b.f0 && a.f1 == b.f1
def sz1 (s : List Int) (x : Int) : Int := if x < 256 then 1 else rd s (x - 256)
def szs (l : List S112) : Nat → List Int
  | 0 => []
  | i + 1 => szs l i ++ [sz1 (szs l i) (atM l i).f0 + sz1 (szs l i) (atM l i).f1]
def szN (l : List S112) (i : Nat) : Int := sz1 (szs l i) (atM l i).f0 + sz1 (szs l i) (atM l i).f1
def tokB (i : Nat) (x : Int) : Bool := decide (0 ≤ x) && decide (x ≤ 255 + (i : Int))
def toksB (l : List S112) (i : Nat) : Bool := tokB i (atM l i).f0 && tokB i (atM l i).f1
def freshB (l : List S112) (i : Nat) : Bool := (List.range i).all fun j => !sameM (atM l j) (atM l i)
def sizB (l : List S112) (i : Nat) : Bool := toksB l i && decide (szN l i ≤ 64)
theorem szs_len (l : List S112) : ∀ i, (szs l i).length = i
  | 0 => rfl
  | i + 1 => by rw [szs, List.length_append, szs_len l i]; rfl
def lowS (s : List Int) : Prop := ∀ z ∈ s, 0 ≤ z ∧ z ≤ 64
theorem sz1_bd (s : List Int) (x : Int) (i : Nat) (hs : lowS s) (hl : s.length = i) (h : tokB i x = true) : 0 ≤ sz1 s x ∧ sz1 s x ≤ 64 ∧ (¬ x < 256 → 0 ≤ x - 256 ∧ x - 256 < (s.length : Int)) ∧ 0 ≤ x ∧ x ≤ 255 + (i : Int) := by
  unfold tokB at h
  simp only [Bool.and_eq_true, decide_eq_true_eq] at h
  unfold sz1
  by_cases c : x < 256
  · rw [if_pos c]; exact ⟨by omega, by omega, fun h => (h c).elim, h.1, h.2⟩
  · rw [if_neg c]
    have g : rd s (x - 256) ∈ s := by
      have := rd_mem s (x - 256).toNat (by omega)
      rwa [show (((x - 256).toNat : Nat) : Int) = x - 256 by omega] at this
    have := hs _ g
    exact ⟨this.1, this.2, fun _ => ⟨by omega, by omega⟩, h.1, h.2⟩
theorem low_snoc (s : List Int) (x : Int) (h : lowS s) (h0 : 0 ≤ x) (h1 : x ≤ 64) : lowS (s ++ [x]) := fun z hz => by
  rcases List.mem_append.1 hz with g | g
  · exact h z g
  · rw [List.mem_singleton.1 g]; exact ⟨h0, h1⟩
theorem atM_rd (l : List S112) (i : Nat) : rd_T112 l (i : Int) = atM l i := by show l.getD (i : Int).toNat _ = _; rw [Int.toNat_natCast]; rfl
theorem spec_in (x lo hi : Int) : spec_l01In.f x lo hi = some (decide (lo ≤ x) && decide (x ≤ hi)) := by
  unfold spec_l01In.f
  by_cases c : x ≥ lo
  · rw [if_pos c, decide_eq_true (show lo ≤ x from c)]; rfl
  · rw [if_neg c, decide_eq_false (show ¬ lo ≤ x from c)]; rfl
theorem impl_inB (x lo hi : Int) : impl_in.f x lo hi = some (decide (lo ≤ x) && decide (x ≤ hi)) := by
  unfold impl_in.f
  by_cases c : x ≥ lo
  · rw [if_pos c, decide_eq_true (show lo ≤ x from c)]; rfl
  · rw [if_neg c, decide_eq_false (show ¬ lo ≤ x from c)]; rfl
theorem spec_fresh (l : List S112) (s : List Int) (i : Nat) (x : Int) (hi : i < l.length) (hl : l.length ≤ 16) (hs : s.length ≤ 16) (d : Nat) : ∀ (k j : Nat), j + d = i → d < k →
    spec_MergesOk.l2 k l s (i : Int) x (j : Int) = if (((List.range i).drop j).all fun j => !sameM (atM l j) (atM l i)) = true then (if x > 64 then some false else spec_MergesOk.l0 (k - d - 1) l (s ++ [x]) ((i + 1 : Nat) : Int)) else some false := by
  induction d with
  | zero =>
    intro k j hj hk
    obtain ⟨k, rfl⟩ : ∃ m, k = m + 1 := ⟨k - 1, by omega⟩
    rw [spec_MergesOk.l2, if_neg (by omega), List.drop_of_length_le (by simp; omega)]
    by_cases c : x > 64
    · rw [if_pos c, if_pos c]; simp
    · rw [if_neg c, if_neg c, if_pos (by omega), w64 (by omega) (by omega), show ((i : Int) + 1) = ((i + 1 : Nat) : Int) by omega]; simp
  | succ d ih =>
    intro k j hj hk
    obtain ⟨k, rfl⟩ : ∃ m, k = m + 1 := ⟨k - 1, by omega⟩
    rw [spec_MergesOk.l2, if_pos (by omega), if_pos (by omega), if_pos (by omega), if_pos (by omega), if_pos (by omega), all_drop _ _ j (by omega), atM_rd, atM_rd]
    by_cases c : sameM (atM l j) (atM l i) = true
    · rw [if_pos (show ((atM l j).f0 == (atM l i).f0 && (atM l j).f1 == (atM l i).f1) = true from c), c]; rfl
    · rw [if_neg (show ¬ ((atM l j).f0 == (atM l i).f0 && (atM l j).f1 == (atM l i).f1) = true from c), Bool.eq_false_iff.mpr c, Bool.not_false, Bool.true_and, w64 (by omega) (by omega), show ((j : Int) + 1) = ((j + 1 : Nat) : Int) by omega, ih k (j + 1) (by omega) (by omega), show k + 1 - (d + 1) - 1 = k - d - 1 by omega]
theorem spec_two (l : List S112) (i : Nat) (hi : i < l.length) (hl : l.length ≤ 16) (hs : lowS (szs l i)) (ht : toksB l i = true) (k : Nat) : spec_MergesOk.l1 (k + 3) l (szs l i) (i : Int) 0 0 = spec_MergesOk.l2 k l (szs l i) (i : Int) (szN l i) 0 := by
  unfold toksB at ht
  rw [Bool.and_eq_true] at ht
  have hsl := szs_len l i
  have w1 : wrap64 (0 + 1) = 1 := w64 (by omega) (by omega)
  have w2 : wrap64 (1 + 1) = 2 := w64 (by omega) (by omega)
  obtain ⟨a0, a1, a2, a3, a4⟩ := sz1_bd (szs l i) _ i hs hsl ht.1
  obtain ⟨b0, b1, b2, b3, b4⟩ := sz1_bd (szs l i) _ i hs hsl ht.2
  have e1 : spec_MergesOk.l1 (k + 3) l (szs l i) (i : Int) 0 0 = spec_MergesOk.l1 (k + 2) l (szs l i) (i : Int) (sz1 (szs l i) (atM l i).f0) 1 := by
    rw [spec_MergesOk.l1, if_pos (by omega), if_pos (by omega), if_pos (by omega), if_neg (by omega), atM_rd]
    unfold sz1 at a0 a1 ⊢
    by_cases c : (atM l i).f0 < 256
    · rw [if_pos c, if_pos c, w1]
    · rw [if_neg c] at a0 a1
      have := a2 c
      rw [if_neg c, if_neg c, w64 (i := (atM l i).f0 - 256) (by omega) (by omega), if_pos (by omega), if_pos (by omega), w64 (i := 0 + rd (szs l i) ((atM l i).f0 - 256)) (by omega) (by omega), Int.zero_add, w1]
  have e2 : spec_MergesOk.l1 (k + 2) l (szs l i) (i : Int) (sz1 (szs l i) (atM l i).f0) 1 = spec_MergesOk.l1 (k + 1) l (szs l i) (i : Int) (szN l i) 2 := by
    rw [spec_MergesOk.l1, if_pos (by omega), if_pos (by omega), if_pos (by omega), if_pos rfl, atM_rd]
    unfold szN
    generalize sz1 (szs l i) (atM l i).f0 = q at a0 a1 ⊢
    unfold sz1 at b0 b1 ⊢
    by_cases c : (atM l i).f1 < 256
    · rw [if_pos c, if_pos c, w64 (i := q + 1) (by omega) (by omega), w2]
    · rw [if_neg c] at b0 b1
      have := b2 c
      rw [if_neg c, if_neg c, w64 (i := (atM l i).f1 - 256) (by omega) (by omega), if_pos (by omega), if_pos (by omega), w64 (i := q + rd (szs l i) ((atM l i).f1 - 256)) (by omega) (by omega), w2]
  rw [e1, e2, spec_MergesOk.l1, if_neg (by omega)]
theorem szN_bd (l : List S112) (i : Nat) (hs : lowS (szs l i)) (ht : toksB l i = true) : 0 ≤ szN l i ∧ szN l i ≤ 128 := by
  unfold toksB at ht
  rw [Bool.and_eq_true] at ht
  obtain ⟨a0, a1, _⟩ := sz1_bd (szs l i) _ i hs (szs_len l i) ht.1
  obtain ⟨b0, b1, _⟩ := sz1_bd (szs l i) _ i hs (szs_len l i) ht.2
  unfold szN; omega
theorem spec_merges_from (l : List S112) (hl : l.length ≤ 16) (d : Nat) : ∀ (k i : Nat), i + d = l.length → lowS (szs l i) → 60 * d + 60 < k →
    spec_MergesOk.l0 k l (szs l i) (i : Int) = some (((List.range l.length).drop i).all fun i => freshB l i && sizB l i) := by
  induction d with
  | zero =>
    intro k i hi hs hk
    obtain ⟨k, rfl⟩ : ∃ m, k = m + 1 := ⟨k - 1, by omega⟩
    rw [spec_MergesOk.l0, if_neg (by omega), List.drop_of_length_le (by simp; omega)]; rfl
  | succ d ih =>
    intro k i hi hs hk
    obtain ⟨k, rfl⟩ : ∃ m, k = m + 10 := ⟨k - 10, by omega⟩
    rw [spec_MergesOk.l0, if_pos (by omega), if_pos (by omega), spec_in, spec_in, all_drop _ _ i (by omega), atM_rd, Option.bind_some, w64 (by omega) (by omega)]
    unfold sizB toksB
    show (if tokB i (atM l i).f0 = true then _ else _) = _
    cases h1 : tokB i (atM l i).f0 with
    | false => rw [if_neg (by simp), spec_MergesOk.j1, if_pos rfl]; simp
    | true =>
      rw [if_pos rfl, Option.bind_some]
      show spec_MergesOk.j1 (k + 9) l (szs l i) (i : Int) (!tokB i (atM l i).f1) = _
      cases h2 : tokB i (atM l i).f1 with
      | false => rw [spec_MergesOk.j1, if_pos (show (!false) = true from rfl)]; simp
      | true =>
        have ht : toksB l i = true := by unfold toksB; rw [h1, h2]; rfl
        have hb := szN_bd l i hs ht
        rw [spec_MergesOk.j1, if_neg (by simp), show k + 8 = (k + 5) + 3 by omega, spec_two l i (by omega) hl hs ht (k + 5)]
        have := spec_fresh l (szs l i) i (szN l i) (by omega) hl (by rw [szs_len]; omega) i (k + 5) 0 (by omega) (by omega)
        rw [show ((0 : Nat) : Int) = 0 from rfl, List.drop_zero] at this
        rw [this]
        unfold freshB
        cases (List.range i).all fun j => !sameM (atM l j) (atM l i) with
        | false => rfl
        | true =>
          rw [if_pos rfl]
          by_cases c : szN l i > 64
          · rw [if_pos c, decide_eq_false (by omega)]; rfl
          · rw [if_neg c, decide_eq_true (by omega)]
            have e := ih (k + 5 - i - 1) (i + 1) (by omega) (low_snoc _ _ hs hb.1 (Int.not_lt.mp c)) (by omega)
            rw [show szs l (i + 1) = szs l i ++ [szN l i] from rfl] at e
            rw [e]; rfl
def mergesB (l : List S112) : Bool := decide (l.length ≤ 16) && ((List.range l.length).all fun i => freshB l i && sizB l i)
theorem spec_merges (l : List S112) (k : Nat) (hk : 2000 < k) : spec_MergesOk.f k l = some (mergesB l) := by
  unfold spec_MergesOk.f mergesB
  by_cases c : (l.length : Int) > 16
  · rw [if_pos c, decide_eq_false (by omega)]; rfl
  · rw [if_neg c, decide_eq_true (by omega)]
    have := spec_merges_from l (by omega) l.length k 0 (by omega) (fun z hz => by cases hz) (by omega)
    rw [List.drop_zero] at this
    exact this
theorem impl_index_from (l : List S112) (m : S112) (hl : l.length ≤ 16) (d : Nat) : ∀ (k j : Nat), j + d = l.length → d < k →
    ∃ r : Int, impl_Merge_146.l0 k l (l.length : Int) (j : Int) m.f0 m.f1 = some r ∧ decide (r ≥ 0) = !(((List.range l.length).drop j).all fun j => !sameM (atM l j) m) := by
  induction d with
  | zero =>
    intro k j hj hk
    obtain ⟨k, rfl⟩ : ∃ m, k = m + 1 := ⟨k - 1, by omega⟩
    rw [impl_Merge_146.l0, if_neg (by omega), List.drop_of_length_le (by simp; omega)]
    exact ⟨_, rfl, rfl⟩
  | succ d ih =>
    intro k j hj hk
    obtain ⟨k, rfl⟩ : ∃ m, k = m + 1 := ⟨k - 1, by omega⟩
    rw [impl_Merge_146.l0, if_pos (by omega), if_pos (by omega), if_pos (by omega), all_drop _ _ j (by omega), atM_rd]
    have e : (m.f0 == (atM l j).f0 && m.f1 == (atM l j).f1) = sameM (atM l j) m := by unfold sameM; rw [show (m.f0 == (atM l j).f0) = ((atM l j).f0 == m.f0) from BEq.comm, show (m.f1 == (atM l j).f1) = ((atM l j).f1 == m.f1) from BEq.comm]
    rw [e]
    cases sameM (atM l j) m with
    | true => rw [if_pos rfl]; exact ⟨_, rfl, by rw [decide_eq_true (by omega)]; rfl⟩
    | false =>
      rw [if_neg (by simp), w64 (by omega) (by omega), show ((j : Int) + 1) = ((j + 1 : Nat) : Int) by omega]
      exact ih k (j + 1) (by omega) (by omega)
theorem impl_contains (l : List S112) (i : Nat) (hi : i < l.length) (hl : l.length ≤ 16) (k : Nat) (hk : 20 < k) : impl_Merge_122.f k (l.take i) (atM l i).f0 (atM l i).f1 = some (!freshB l i) := by
  have e : (l.take i).length = i := by rw [List.length_take]; omega
  obtain ⟨r, h1, h2⟩ := impl_index_from (l.take i) (atM l i) (by omega) i k 0 (by omega) (by omega)
  unfold impl_Merge_122.f impl_Merge_146.f
  rw [show (0 : Int) = ((0 : Nat) : Int) from rfl, h1, Option.bind_some]
  show some (decide (r ≥ 0)) = _
  rw [h2, List.drop_zero, e]
  unfold freshB
  congr 2
  rw [Bool.eq_iff_iff, List.all_eq_true, List.all_eq_true]
  have g : ∀ j, j ∈ List.range i → atM (l.take i) j = atM l j := fun j hj => by
    have := List.mem_range.1 hj
    unfold atM; rw [List.getD_eq_getElem?_getD, List.getD_eq_getElem?_getD, List.getElem?_take_of_lt this]
  exact ⟨fun h j hj => by rw [← g j hj]; exact h j hj, fun h j hj => by rw [g j hj]; exact h j hj⟩
theorem impl_fresh_from (l : List S112) (hl : l.length ≤ 16) (rest : Option Bool) (c : Bool) (hc : rest = some c) (d : Nat) : ∀ (k i : Nat), i + d = l.length → d + 30 < k →
    (impl_MergesOk.l0 l k (i : Int)).bind (fun o => match o with | .inl r_ => some r_ | .inr _ => rest) = some (((List.range l.length).drop i).all (freshB l) && c) := by
  induction d with
  | zero =>
    intro k i hi hk
    obtain ⟨k, rfl⟩ : ∃ m, k = m + 1 := ⟨k - 1, by omega⟩
    unfold impl_MergesOk.l0 impl_MergesOk.b0
    rw [if_neg (by omega), List.drop_of_length_le (by simp; omega), hc]; rfl
  | succ d ih =>
    intro k i hi hk
    obtain ⟨k, rfl⟩ : ∃ m, k = m + 1 := ⟨k - 1, by omega⟩
    unfold impl_MergesOk.l0 impl_MergesOk.b0
    rw [if_pos (by omega), if_pos (by omega), if_pos (by omega), Int.toNat_natCast, all_drop _ _ i (by omega)]
    show ((impl_Merge_122.f k (l.take i) (atM l i).f0 (atM l i).f1).bind _).bind _ = _
    rw [impl_contains l i (by omega) hl k (by omega), Option.bind_some]
    cases freshB l i with
    | false => rfl
    | true => rw [if_neg (by simp), w64 (by omega) (by omega), show ((i : Int) + 1) = ((i + 1 : Nat) : Int) by omega, ih k (i + 1) (by omega) (by omega)]; rfl
theorem impl_token (x : Int) (i : Nat) (hi : i ≤ 16) : impl_isToken.f x (i : Int) = some (tokB i x) := by
  unfold impl_isToken.f
  rw [impl_inB, Option.bind_some, w64 (by omega) (by omega)]; rfl
theorem impl_one (s : List Int) (x : Int) (i : Nat) (hs : lowS s) (hl : s.length = i) (hi : i ≤ 16) (h : tokB i x = true) (k : Nat) : impl_sizesOf_1.g k x s = some (sz1 s x) := by
  obtain ⟨a0, a1, a2, a3, a4⟩ := sz1_bd s x i hs hl h
  unfold impl_sizesOf_1.g sz1
  by_cases c : x < 256
  · rw [if_pos c, if_pos c]
  · have := a2 c
    rw [if_neg c, if_neg c, w64 (by omega) (by omega), if_pos this]; rfl
theorem impl_sizes_from (l : List S112) (hl : l.length ≤ 16) (d : Nat) : ∀ (k i : Nat), i + d = l.length → lowS (szs l i) → d + 30 < k →
    ∃ r : List Int × Bool, (impl_sizesOf.l0 l k (i : Int) (szs l i)).bind (fun o => match o with | .inl r_ => some r_ | .inr ⟨_, xs⟩ => some (xs, true)) = some r ∧ r.2 = ((List.range l.length).drop i).all (sizB l) := by
  induction d with
  | zero =>
    intro k i hi hs hk
    obtain ⟨k, rfl⟩ : ∃ m, k = m + 1 := ⟨k - 1, by omega⟩
    unfold impl_sizesOf.l0 impl_sizesOf.b0
    rw [if_neg (by omega), List.drop_of_length_le (by simp; omega)]
    exact ⟨_, rfl, rfl⟩
  | succ d ih =>
    intro k i hi hs hk
    obtain ⟨k, rfl⟩ : ∃ m, k = m + 1 := ⟨k - 1, by omega⟩
    unfold impl_sizesOf.l0 impl_sizesOf.b0
    rw [if_pos (by omega), if_pos (by omega), Int.toNat_natCast, all_drop _ _ i (by omega)]
    show ∃ r, ((impl_isToken.f (atM l i).f0 (i : Int)).bind fun t45 => if t45 = true then (impl_isToken.f (atM l i).f1 (i : Int)).bind _ else _).bind _ = some r ∧ _
    rw [impl_token _ i (by omega), Option.bind_some]
    unfold sizB toksB
    cases h1 : tokB i (atM l i).f0 with
    | false => rw [if_neg (by simp)]; exact ⟨_, rfl, rfl⟩
    | true =>
      rw [if_pos rfl, impl_token _ i (by omega), Option.bind_some]
      cases h2 : tokB i (atM l i).f1 with
      | false => rw [if_neg (by simp)]; exact ⟨_, rfl, rfl⟩
      | true =>
        have ht : toksB l i = true := by unfold toksB; rw [h1, h2]; rfl
        have hb := szN_bd l i hs ht
        have hsl := szs_len l i
        rw [if_pos rfl]
        show ∃ r, ((impl_sizesOf_1.g k (atM l i).f0 (szs l i)).bind fun t57 => (impl_sizesOf_1.g k (atM l i).f1 (szs l i)).bind _).bind _ = some r ∧ _
        rw [impl_one _ _ i hs hsl (by omega) h1, Option.bind_some, impl_one _ _ i hs hsl (by omega) h2, Option.bind_some]
        show ∃ r, (if wrap64 (szN l i) > 64 then _ else if (szs l i).length < 4294967296 then impl_sizesOf.l0 l k (wrap64 ((i : Int) + 1)) (szs l i ++ [wrap64 (szN l i)]) else _).bind _ = some r ∧ _
        rw [w64 (i := szN l i) (by omega) (by omega)]
        by_cases c : szN l i > 64
        · rw [if_pos c, decide_eq_false (by omega)]; exact ⟨_, rfl, by simp⟩
        · rw [if_neg c, if_pos (by omega), decide_eq_true (by omega), w64 (by omega) (by omega), show ((i : Int) + 1) = ((i + 1 : Nat) : Int) by omega]
          obtain ⟨r, e1, e2⟩ := ih k (i + 1) (by omega) (low_snoc _ _ hs hb.1 (Int.not_lt.mp c)) (by omega)
          exact ⟨r, e1, by rw [e2]; rfl⟩
theorem impl_merges (l : List S112) (k : Nat) (hk : 100 < k) : impl_MergesOk.g k l = some (mergesB l) := by
  unfold impl_MergesOk.g mergesB
  by_cases c : (l.length : Int) > 16
  · rw [if_pos c, decide_eq_false (by omega)]; rfl
  · rw [if_neg c, decide_eq_true (by omega), Bool.true_and, all_both]
    obtain ⟨r, e1, e2⟩ := impl_sizes_from l (by omega) l.length k 0 (by omega) (fun z hz => by cases hz) (by omega)
    rw [List.drop_zero] at e2
    have g := impl_fresh_from l (by omega) ((impl_sizesOf.g k l).bind fun t => some t.2) r.2 (by
      have e3 : impl_sizesOf.g k l = some r := e1
      rw [e3, Option.bind_some]) l.length k 0 (by omega) (by omega)
    rw [List.drop_zero, e2] at g
    exact g

def vocabM (x : S39) : Int := wrap64 (256 + (x.f3.length : Int))
def rowI (n : Int) (l : List Int) : Bool := decide ((l.length : Int) = n) && l.all fun x => decide (-127 ≤ x) && decide (x ≤ 127)
/-- what a good model is. -/
def modelB (x : S39) : Bool := widthB x.f0 && ((decide (1 ≤ x.f1) && decide (x.f1 ≤ 2)) && (mergesB x.f3 && (decide ((x.f4.length : Int) = vocabM x) && ((decide (1 ≤ (x.f5.length : Int)) && decide ((x.f5.length : Int) ≤ 2)) &&
  (x.f4.all (rowI x.f0) && (x.f5.all (fun y => layerB y x.f0) && (gainB x.f6 x.f0 && (mfit x.f7 x.f0 (vocabM x) && turnsB x.f8.f0 x.f8.f1 x.f2 (wrap64 (Int.tdiv (wrap64 (Int.tdiv x.f0 x.f1)) 2))))))))))
theorem spec_layers_from (x : S39) (L : Nat → Int → Option (Bool ⊕ Int)) (hL : ∀ k i, L (k + 1) i = spec_ModelOk.b0 x (L k) k i) (hl : x.f5.length ≤ 1048576) (hs : ∀ y ∈ x.f5, iLayer y ≤ 1048576) (rest : Option Bool) (c : Bool) (hc : rest = some c) (d : Nat) : ∀ (k i : Nat), i + d = x.f5.length → d + 3000001 < k →
    (L k (i : Int)).bind (fun o => match o with | .inl r_ => some r_ | .inr _ => rest) = some (((List.range x.f5.length).drop i).all (fun i => layerB (x.f5.getD i o48) x.f0) && c) := by
  induction d with
  | zero =>
    intro k i hi hk
    obtain ⟨k, rfl⟩ : ∃ m, k = m + 1 := ⟨k - 1, by omega⟩
    rw [hL]; unfold spec_ModelOk.b0
    rw [if_neg (by omega), List.drop_of_length_le (by simp; omega), hc]; rfl
  | succ d ih =>
    intro k i hi hk
    obtain ⟨k, rfl⟩ : ∃ m, k = m + 1 := ⟨k - 1, by omega⟩
    have hm : x.f5.getD i o48 ∈ x.f5 := by rw [List.getD_eq_getElem?_getD, List.getElem?_eq_getElem (by omega)]; exact List.getElem_mem _
    rw [hL]; unfold spec_ModelOk.b0
    rw [if_pos (by omega), if_pos (by omega), Int.toNat_natCast, all_drop _ _ i (by omega), spec_layer _ _ (hs _ hm) k (by omega), Option.bind_some]
    cases layerB (x.f5.getD i o48) x.f0 with
    | false => rfl
    | true => rw [if_pos rfl, w64 (by omega) (by omega), show ((i : Int) + 1) = ((i + 1 : Nat) : Int) by omega, ih k (i + 1) (by omega) (by omega)]; rfl
theorem spec_rows_from (x : S39) (L : Nat → Int → Option (Bool ⊕ Int)) (hL : ∀ k i, L (k + 1) i = spec_ModelOk.b1 x (L k) k i) (hw : x.f0 ≤ 8) (hl : x.f4.length ≤ 1048576) (rest : Option Bool) (c : Bool) (hc : rest = some c) (d : Nat) : ∀ (k i : Nat), i + d = x.f4.length → d + 20 < k →
    (L k (i : Int)).bind (fun o => match o with | .inl r_ => some r_ | .inr _ => rest) = some (((List.range x.f4.length).drop i).all (fun i => rowI x.f0 (x.f4.getD i [])) && c) := by
  induction d with
  | zero =>
    intro k i hi hk
    obtain ⟨k, rfl⟩ : ∃ m, k = m + 1 := ⟨k - 1, by omega⟩
    rw [hL]; unfold spec_ModelOk.b1
    rw [if_neg (by omega), List.drop_of_length_le (by simp; omega), hc]; rfl
  | succ d ih =>
    intro k i hi hk
    obtain ⟨k, rfl⟩ : ∃ m, k = m + 1 := ⟨k - 1, by omega⟩
    rw [hL]; unfold spec_ModelOk.b1
    rw [if_pos (by omega), if_pos (by omega), Int.toNat_natCast, all_drop _ _ i (by omega)]
    unfold rowI
    by_cases h1 : ((x.f4.getD i []).length : Int) = x.f0
    · rw [if_pos h1, decide_eq_true h1, all_tells _ _ _ (by omega) k (by omega), Option.bind_some, Bool.true_and]
      cases (x.f4.getD i []).all fun x => decide (-127 ≤ x) && decide (x ≤ 127) with
      | false => rfl
      | true => rw [if_pos rfl, w64 (by omega) (by omega), show ((i : Int) + 1) = ((i + 1 : Nat) : Int) by omega, ih k (i + 1) (by omega) (by omega)]; rfl
    · rw [if_neg h1, decide_eq_false h1]; rfl
theorem model_size (x : S39) (h : iModel x ≤ 1048576) : x.f3.length ≤ 1048576 ∧ x.f4.length ≤ 1048576 ∧ x.f5.length ≤ 1048576 ∧ (∀ y ∈ x.f5, iLayer y ≤ 1048576) ∧ x.f6.length ≤ 1048576 ∧ iMatrix x.f7 ≤ 1048576 := by
  unfold iModel at h
  have e := mIntss_eq x.f4
  have g : iLayers x.f5 = x.f5.length + sumS iLayer x.f5 := rfl
  exact ⟨by omega, by omega, by omega, fun y hy => by have := sumS_le iLayer x.f5 y hy; omega, by omega, by omega⟩
theorem spec_model_tail (x : S39) (h : iModel x ≤ 1048576) (hw : x.f0 ≤ 8) (h0 : x.f1 ≠ 0) (L0 L1 : Nat → Int → Option (Bool ⊕ Int)) (hL0 : ∀ k i, L0 (k + 1) i = spec_ModelOk.b0 x (L0 k) k i) (hL1 : ∀ k i, L1 (k + 1) i = spec_ModelOk.b1 x (L1 k) k i) (k : Nat) (hk : 5000000 < k) :
    ((spec_MergesOk.f k x.f3).bind fun t16 => (if t16 = true then ((spec_Vocab.g k x).bind fun t24 => (if (x.f4.length : Int) = t24 then ((spec_l01In.f (x.f5.length : Int) 1 2).bind fun t32 => (if t32 = true then ((L1 k 0).bind (fun o110 => match o110 with | .inl r_ => some r_ | .inr i42 => ((L0 k 0).bind (fun o91 => match o91 with | .inl r_ => some r_ | .inr i51 => ((spec_GainOk.f k x.f6 x.f0).bind fun t60 => (if t60 = true then ((spec_Vocab.g k x).bind fun t72 => ((spec_l10Matrix.g k x.f7 x.f0 t72).bind fun t75 => (if t75 = true then (if x.f1 ≠ 0 then ((spec_TurnsOk.f k x.f8.f0 x.f8.f1 x.f2 (wrap64 (Int.tdiv (wrap64 (Int.tdiv x.f0 x.f1)) 2))).bind fun t88 => (some t88)) else none) else (some false)))) else (some false))))))) else (some false))) else (some false))) else (some false)))
      = some (mergesB x.f3 && (decide ((x.f4.length : Int) = vocabM x) && ((decide (1 ≤ (x.f5.length : Int)) && decide ((x.f5.length : Int) ≤ 2)) &&
  (x.f4.all (rowI x.f0) && (x.f5.all (fun y => layerB y x.f0) && (gainB x.f6 x.f0 && (mfit x.f7 x.f0 (vocabM x) && turnsB x.f8.f0 x.f8.f1 x.f2 (wrap64 (Int.tdiv (wrap64 (Int.tdiv x.f0 x.f1)) 2))))))))) := by
  obtain ⟨s3, s4, s5, s5', s6, s7⟩ := model_size x h
  have hv : spec_Vocab.g k x = some (vocabM x) := rfl
  refine bind_and _ _ _ _ (spec_merges x.f3 k (by omega)) fun _ => ?_
  rw [hv, Option.bind_some]
  by_cases c : (x.f4.length : Int) = vocabM x
  · rw [if_pos c, decide_eq_true c, Bool.true_and]
    refine bind_and _ _ _ _ (spec_in _ 1 2) fun _ => ?_
    have t1 : ((spec_GainOk.f k x.f6 x.f0).bind fun t60 => (if t60 = true then ((spec_Vocab.g k x).bind fun t72 => ((spec_l10Matrix.g k x.f7 x.f0 t72).bind fun t75 => (if t75 = true then (if x.f1 ≠ 0 then ((spec_TurnsOk.f k x.f8.f0 x.f8.f1 x.f2 (wrap64 (Int.tdiv (wrap64 (Int.tdiv x.f0 x.f1)) 2))).bind fun t88 => (some t88)) else none) else (some false)))) else (some false)))
        = some (gainB x.f6 x.f0 && (mfit x.f7 x.f0 (vocabM x) && turnsB x.f8.f0 x.f8.f1 x.f2 (wrap64 (Int.tdiv (wrap64 (Int.tdiv x.f0 x.f1)) 2)))) := by
      refine bind_and _ _ _ _ (spec_gainB x.f6 x.f0 s6 k (by omega)) fun _ => ?_
      rw [hv, Option.bind_some]
      refine bind_and _ _ _ _ (spec_mfit x.f7 x.f0 _ s7 k (by omega)) fun _ => ?_
      rw [if_pos h0, spec_turns _ _ _ _ k (by omega), Option.bind_some]
    have r1 := spec_rows_from x L1 hL1 hw s4 _ _ (spec_layers_from x L0 hL0 s5 s5' _ _ t1 x.f5.length k 0 (by omega) (by omega)) x.f4.length k 0 (by omega) (by omega)
    rw [List.drop_zero, List.drop_zero, ← all_range (rowI x.f0) [] x.f4, ← all_range (fun y => layerB y x.f0) o48 x.f5] at r1
    exact r1
  · rw [if_neg c, decide_eq_false c]; rfl
theorem spec_model (x : S39) (h : iModel x ≤ 1048576) (k : Nat) (hk : 5000000 < k) : spec_ModelOk.g k x = some (modelB x) := by
  unfold spec_ModelOk.g modelB
  refine bind_and _ _ _ _ (spec_width x.f0) fun hw => ?_
  have hw8 : x.f0 ≤ 8 := by have := width_facts _ hw; omega
  by_cases c1 : x.f1 = 1
  · rw [if_pos c1, show (decide (1 ≤ x.f1) && decide (x.f1 ≤ 2)) = true by rw [c1]; rfl, Bool.true_and]
    exact spec_model_tail x h hw8 (by omega) (spec_ModelOk.l0 x) (spec_ModelOk.l1 x) (fun _ _ => rfl) (fun _ _ => rfl) k hk
  · rw [if_neg c1]
    by_cases c2 : x.f1 = 2
    · rw [if_pos c2, show (decide (1 ≤ x.f1) && decide (x.f1 ≤ 2)) = true by rw [c2]; rfl, Bool.true_and]
      exact spec_model_tail x h hw8 (by omega) (spec_ModelOk.l2 x) (spec_ModelOk.l3 x) (fun _ _ => rfl) (fun _ _ => rfl) k hk
    · rw [if_neg c2, show (decide (1 ≤ x.f1) && decide (x.f1 ≤ 2)) = false by rw [Bool.eq_false_iff]; intro g; simp only [Bool.and_eq_true, decide_eq_true_eq] at g; omega]; rfl
theorem impl_rows_from (x : S39) (l : List (List Int)) (hl : l.length ≤ 1048576) (d : Nat) : ∀ (k i : Nat), i + d = l.length → d < k →
    ∃ r : Int, (slices_IndexFunc_int_int_73.l0 l x k (i : Int)).bind (fun o => match o with | .inl r_ => some r_ | .inr _ => some (-1)) = some r ∧ decide (r ≥ 0) = !(((List.range l.length).drop i).all fun i => rowI x.f0 (l.getD i [])) := by
  induction d with
  | zero =>
    intro k i hi hk
    obtain ⟨k, rfl⟩ : ∃ m, k = m + 1 := ⟨k - 1, by omega⟩
    unfold slices_IndexFunc_int_int_73.l0 slices_IndexFunc_int_int_73.b0
    rw [if_neg (by omega), List.drop_of_length_le (by simp; omega)]
    exact ⟨_, rfl, rfl⟩
  | succ d ih =>
    intro k i hi hk
    obtain ⟨k, rfl⟩ : ∃ m, k = m + 1 := ⟨k - 1, by omega⟩
    unfold slices_IndexFunc_int_int_73.l0 slices_IndexFunc_int_int_73.b0
    have e : impl_ModelOk_1.g k (l.getD i []) x = some (!rowI x.f0 (l.getD i [])) := by
      unfold impl_ModelOk_1.g rowI impl_allIn.f
      by_cases c : ((l.getD i []).length : Int) = x.f0
      · rw [if_pos c, decide_eq_true c]; rfl
      · rw [if_neg c, decide_eq_false c]; rfl
    rw [if_pos (by omega), if_pos (by omega), Int.toNat_natCast, all_drop _ _ i (by omega), e, Option.bind_some]
    cases rowI x.f0 (l.getD i []) with
    | false => rw [if_pos (show (!false) = true from rfl)]; exact ⟨_, rfl, by rw [decide_eq_true (by omega)]; rfl⟩
    | true =>
      rw [if_neg (by simp), w64 (by omega) (by omega), show ((i : Int) + 1) = ((i + 1 : Nat) : Int) by omega]
      exact ih k (i + 1) (by omega) (by omega)
theorem impl_layers_from (x : S39) (l : List S48) (hl : l.length ≤ 1048576) (hs : ∀ y ∈ l, iLayer y ≤ 1048576) (d : Nat) : ∀ (k i : Nat), i + d = l.length → d + 3000 < k →
    ∃ r : Int, (slices_IndexFunc_impl_Layer_impl_Layer_76.l0 l x k (i : Int)).bind (fun o => match o with | .inl r_ => some r_ | .inr _ => some (-1)) = some r ∧ decide (r ≥ 0) = !(((List.range l.length).drop i).all fun i => layerB (l.getD i o48) x.f0) := by
  induction d with
  | zero =>
    intro k i hi hk
    obtain ⟨k, rfl⟩ : ∃ m, k = m + 1 := ⟨k - 1, by omega⟩
    unfold slices_IndexFunc_impl_Layer_impl_Layer_76.l0 slices_IndexFunc_impl_Layer_impl_Layer_76.b0
    rw [if_neg (by omega), List.drop_of_length_le (by simp; omega)]
    exact ⟨_, rfl, rfl⟩
  | succ d ih =>
    intro k i hi hk
    obtain ⟨k, rfl⟩ : ∃ m, k = m + 1 := ⟨k - 1, by omega⟩
    unfold slices_IndexFunc_impl_Layer_impl_Layer_76.l0 slices_IndexFunc_impl_Layer_impl_Layer_76.b0
    have hm : l.getD i o48 ∈ l := by rw [List.getD_eq_getElem?_getD, List.getElem?_eq_getElem (by omega)]; exact List.getElem_mem _
    have e : impl_ModelOk_2.g k (l.getD i o48) x = some (!layerB (l.getD i o48) x.f0) := by
      unfold impl_ModelOk_2.g
      rw [impl_layer _ _ (hs _ hm) k (by omega)]; rfl
    rw [if_pos (by omega), if_pos (by omega), Int.toNat_natCast, all_drop _ _ i (by omega), e, Option.bind_some]
    cases layerB (l.getD i o48) x.f0 with
    | false => rw [if_pos (show (!false) = true from rfl)]; exact ⟨_, rfl, by rw [decide_eq_true (by omega)]; rfl⟩
    | true =>
      rw [if_neg (by simp), w64 (by omega) (by omega), show ((i : Int) + 1) = ((i + 1 : Nat) : Int) by omega]
      exact ih k (i + 1) (by omega) (by omega)
theorem bind_nand (p : Option Bool) (a : Bool) (b : Option Bool) (c : Bool) (hp : p = some (!a)) (h : a = true → b = some c) : (p.bind fun t => if t = true then some false else b) = some (a && c) := by
  rw [hp, Option.bind_some]
  cases a with
  | false => rfl
  | true => rw [if_neg (by simp), h rfl]; rfl
theorem impl_model (x : S39) (h : iModel x ≤ 1048576) (k : Nat) (hk : 5000000 < k) : impl_ModelOk.g k x = some (modelB x) := by
  obtain ⟨s3, s4, s5, s5', s6, s7⟩ := model_size x h
  unfold impl_ModelOk.g modelB
  refine bind_and _ _ _ _ (impl_width x.f0) fun hw => bind_and _ _ _ _ (impl_inB x.f1 1 2) fun h1 => bind_and _ _ _ _ (impl_merges x.f3 k (by omega)) fun _ => ?_
  have h0 : x.f1 ≠ 0 := by simp only [Bool.and_eq_true, decide_eq_true_eq] at h1; omega
  rw [show impl_Vocab.g k x = some (vocabM x) from rfl, Option.bind_some]
  by_cases c : (x.f4.length : Int) = vocabM x
  · rw [if_pos c, decide_eq_true c, Bool.true_and]
    obtain ⟨r1, e1, g1⟩ := impl_rows_from x x.f4 s4 x.f4.length k 0 (by omega) (by omega)
    obtain ⟨r2, e2, g2⟩ := impl_layers_from x x.f5 s5 s5' x.f5.length k 0 (by omega) (by omega)
    rw [List.drop_zero, ← all_range (rowI x.f0) [] x.f4] at g1
    rw [List.drop_zero, ← all_range (fun y => layerB y x.f0) o48 x.f5] at g2
    refine bind_and _ _ _ _ (impl_inB _ 1 2) fun _ => bind_nand _ _ _ _ ?_ fun _ => bind_nand _ _ _ _ ?_ fun _ => bind_and _ _ _ _ (impl_gainB x.f6 x.f0) fun _ => ?_
    · have e3 : slices_IndexFunc_int_int_73.g k x.f4 x = some r1 := e1
      unfold slices_ContainsFunc_int_int_73.g
      rw [e3, Option.bind_some, g1]
    · have e3 : slices_IndexFunc_impl_Layer_impl_Layer_76.g k x.f5 x = some r2 := e2
      unfold slices_ContainsFunc_impl_Layer_impl_Layer_76.g
      rw [e3, Option.bind_some, g2]
    · rw [Option.bind_some]
      refine bind_and _ _ _ _ (impl_mfit x.f7 x.f0 _ s7 k (by omega)) fun _ => ?_
      rw [if_pos h0, impl_turns, Option.bind_some]
  · rw [if_neg c, decide_eq_false c]; rfl

def six (y : S48) : List S36 := [y.f1, y.f2, y.f3, y.f4, y.f6, y.f7]
def matsOf (x : S39) : List S36 := (x.f5.map six).flatten ++ [x.f7]
theorem six_len (l : List S48) : ((l.map six).flatten).length = 6 * l.length := by
  induction l with
  | nil => rfl
  | cons a l ih => rw [List.map_cons, List.flatten_cons, List.length_append, ih, List.length_cons]; show 6 + 6 * l.length = _; omega
theorem mats_from (x : S39) (L : Nat → List S36 → Int → Option (List S36 × Int)) (hL : ∀ k xs i, L (k + 1) xs i = (if i < (x.f5.length : Int) then (if 0 ≤ i ∧ i < (x.f5.length : Int) then (if (xs.length) < 4294967296 then (L k (xs ++ [(x.f5.getD i.toNat o48).f1, (x.f5.getD i.toNat o48).f2, (x.f5.getD i.toNat o48).f3, (x.f5.getD i.toNat o48).f4, (x.f5.getD i.toNat o48).f6, (x.f5.getD i.toNat o48).f7]) (wrap64 (i + 1))) else none) else none) else (some (xs, i))))
    (hl : x.f5.length ≤ 1048576) (d : Nat) : ∀ (k i : Nat) (acc : List S36), i + d = x.f5.length → d < k → acc.length + 6 * d < 4294967296 → ∃ j, L k acc (i : Int) = some (acc ++ ((x.f5.drop i).map six).flatten, j) := by
  induction d with
  | zero =>
    intro k i acc hi hk ha
    obtain ⟨k, rfl⟩ : ∃ m, k = m + 1 := ⟨k - 1, by omega⟩
    rw [hL, if_neg (by omega), List.drop_of_length_le (by omega)]
    exact ⟨(i : Int), by simp⟩
  | succ d ih =>
    intro k i acc hi hk ha
    obtain ⟨k, rfl⟩ : ∃ m, k = m + 1 := ⟨k - 1, by omega⟩
    have hlt : i < x.f5.length := by omega
    rw [hL, if_pos (by omega), if_pos (by omega), if_pos (by omega), getD_int x.f5 _ i hlt, w64 (by omega) (by omega), show ((i : Int) + 1) = ((i + 1 : Nat) : Int) by omega, List.drop_eq_getElem_cons hlt, List.map_cons, List.flatten_cons]
    obtain ⟨j, e⟩ := ih k (i + 1) (acc ++ six x.f5[i]) (by omega) (by omega) (by rw [List.length_append]; show acc.length + 6 + 6 * d < _; omega)
    rw [List.append_assoc] at e
    exact ⟨j, e⟩
theorem impl_mats (x : S39) (hl : x.f5.length ≤ 1048576) (k : Nat) (hk : x.f5.length < k) : impl_matricesOf.g k x = some (matsOf x) := by
  obtain ⟨j, e⟩ := mats_from x (impl_matricesOf.l0 x) (fun _ _ _ => rfl) hl x.f5.length k 0 [] (by omega) (by omega) (by simp; omega)
  have g : ((x.f5.map six).flatten).length < 4294967296 := by rw [six_len]; omega
  unfold impl_matricesOf.g
  rw [show (0 : Int) = ((0 : Nat) : Int) from rfl, e, Option.bind_some, List.drop_zero, List.nil_append, if_pos g]; rfl
theorem spec_mats (x : S39) (hl : x.f5.length ≤ 1048576) (k : Nat) (hk : x.f5.length < k) : spec_l10Matrices.g k x = some (matsOf x) := by
  obtain ⟨j, e⟩ := mats_from x (spec_l10Matrices.l0 x) (fun _ _ _ => rfl) hl x.f5.length k 0 [] (by omega) (by omega) (by simp; omega)
  have g : ((x.f5.map six).flatten).length < 4294967296 := by rw [six_len]; omega
  unfold spec_l10Matrices.g
  rw [show (0 : Int) = ((0 : Nat) : Int) from rfl, e, Option.bind_some, List.drop_zero, List.nil_append, if_pos g]; rfl
theorem mats_len (x : S39) : (matsOf x).length = 6 * x.f5.length + 1 := by unfold matsOf; rw [List.length_append, six_len]; rfl
/-- what is known of a matrix of a good model. -/
def fineM (m : S36) : Prop := iMatrix m ≤ 1048576 ∧ m.f1.length ≤ 300 ∧ m.f2.length = m.f1.length ∧ ∀ i, i < m.f1.length → ((m.f1.getD i []).length : Int) = m.f0 ∧ rowB (m.f1.getD i []) (m.f2.getD i []) = true
theorem fine_of (m : S36) (a b : Int) (h : mfit m a b = true) (hi : iMatrix m ≤ 1048576) : fineM m := by
  unfold mfit fitB at h
  rw [Bool.and_eq_true] at h
  obtain ⟨_, f2, f3, _, _, _, _, f8⟩ := mat_facts _ _ _ _ _ h.1
  exact ⟨hi, f2, f3, f8⟩
theorem fine_mats (x : S39) (h : modelB x = true) (hi : iModel x ≤ 1048576) : (∀ m ∈ matsOf x, fineM m) ∧ x.f5.length ≤ 2 ∧ 1 ≤ x.f5.length := by
  obtain ⟨s3, s4, s5, s5', s6, s7⟩ := model_size x hi
  unfold modelB at h
  simp only [Bool.and_eq_true, decide_eq_true_eq] at h
  obtain ⟨h0, h1, h3, h4, h5, h6, h7, h8, h9, h10⟩ := h
  refine ⟨fun m hm => ?_, by omega, by omega⟩
  unfold matsOf at hm
  rcases List.mem_append.1 hm with g | g
  · obtain ⟨l, hl, hml⟩ := List.mem_flatten.1 g
    obtain ⟨y, hy, rfl⟩ := List.mem_map.1 hl
    have hb := List.all_eq_true.1 h7 y hy
    have hs := s5' y hy
    have e : iLayer y = y.f0.length + (iMatrix y.f1 + (iMatrix y.f2 + (iMatrix y.f3 + (iMatrix y.f4 + (y.f5.length + (iMatrix y.f6 + iMatrix y.f7)))))) := rfl
    unfold layerB at hb
    simp only [Bool.and_eq_true] at hb
    obtain ⟨_, _, _, b1, b2, b3, b4, b6, b7⟩ := hb
    unfold six at hml
    simp only [List.mem_cons, List.not_mem_nil, or_false] at hml
    rcases hml with rfl | rfl | rfl | rfl | rfl | rfl
    · exact fine_of _ _ _ b1 (by omega)
    · exact fine_of _ _ _ b2 (by omega)
    · exact fine_of _ _ _ b3 (by omega)
    · exact fine_of _ _ _ b4 (by omega)
    · exact fine_of _ _ _ b6 (by omega)
    · exact fine_of _ _ _ b7 (by omega)
  · rw [List.mem_singleton.1 g]; exact fine_of _ _ _ h9 s7

def cosAt (p k : Nat) : Int := 128 - 2 * (((p * (k + 1)) % 64 : Nat) : Int)
def sinAt (p k : Nat) : Int := (((8 * p + 16 * k) % 128 : Nat) : Int)
def rowOf (f : Nat → Nat → Int) (n p : Nat) : List Int := (List.range n).map (f p)
def rowsOf (f : Nat → Nat → Int) (n c : Nat) : List (List Int) := (List.range c).map (rowOf f n)
theorem range_succ_map {α : Type} (f : Nat → α) (n : Nat) : (List.range (n + 1)).map f = (List.range n).map f ++ [f n] := by rw [List.range_succ, List.map_append]; rfl
theorem cos_at (p k : Nat) (hp : p ≤ 24) (hk : k ≤ 4) : wrap64 (128 - (wrap64 (2 * (Int.tmod (wrap64 ((p : Int) * (wrap64 ((k : Int) + 1)))) 64)))) = cosAt p k := by
  have h1 : p * (k + 1) ≤ 24 * 5 := Nat.mul_le_mul hp (by omega)
  rw [w64 (i := (k : Int) + 1) (by omega) (by omega), show (k : Int) + 1 = ((k + 1 : Nat) : Int) by omega, show (p : Int) * ((k + 1 : Nat) : Int) = ((p * (k + 1) : Nat) : Int) by rw [Int.natCast_mul], w64 (i := ((p * (k + 1) : Nat) : Int)) (by omega) (by omega)]
  unfold cosAt
  generalize p * (k + 1) = q
  rw [Int.tmod_eq_emod_of_nonneg (by omega), w64 (i := 2 * ((q : Int) % 64)) (by omega) (by omega), w64 (by omega) (by omega)]
  omega
theorem sin_at (p k : Nat) (hp : p ≤ 24) (hk : k ≤ 4) : Int.tmod (wrap64 ((wrap64 (8 * (p : Int))) + (wrap64 (16 * (k : Int))))) 128 = sinAt p k := by
  rw [w64 (i := 8 * (p : Int)) (by omega) (by omega), w64 (i := 16 * (k : Int)) (by omega) (by omega), w64 (by omega) (by omega), Int.tmod_eq_emod_of_nonneg (by omega)]
  unfold sinAt; omega
theorem cos_bd (p k : Nat) : -128 ≤ cosAt p k ∧ cosAt p k ≤ 128 := by unfold cosAt; omega
theorem sin_bd (p k : Nat) : -128 ≤ sinAt p k ∧ sinAt p k ≤ 128 := by unfold sinAt; omega
theorem rowsOf_at (f : Nat → Nat → Int) (n c p : Nat) (h : p < c) : rd_L3 (rowsOf f n c) (p : Int) = rowOf f n p := by
  unfold rd_L3 rowsOf
  simp [List.getD_eq_getElem?_getD, h]
theorem rowOf_len (f : Nat → Nat → Int) (n p : Nat) : (rowOf f n p).length = n := by simp [rowOf]
theorem rowsOf_len (f : Nat → Nat → Int) (n c : Nat) : (rowsOf f n c).length = c := by simp [rowsOf]
theorem rowOf_all (f : Nat → Nat → Int) (hf : ∀ p k, -128 ≤ f p k ∧ f p k ≤ 128) (n p : Nat) : ((rowOf f n p).all fun x => decide (-128 ≤ x) && decide (x ≤ 128)) = true := by
  rw [List.all_eq_true]
  intro x hx
  obtain ⟨k, _, rfl⟩ := List.mem_map.mp hx
  simp [hf p k]
theorem spec_turnsOk_from (n c : Nat) (h1 : 1 ≤ n) (hn : n ≤ 4) (hc : c ≤ 24) : ∀ d p k, p + d = c → d + 10 < k →
    spec_TurnsOk.l0 k (c : Int) (n : Int) (p : Int) (rowsOf cosAt n c) (rowsOf sinAt n c) = some true
  | 0, p, k, h1, h2 => by
    obtain ⟨k, rfl⟩ : ∃ m, k = m + 1 := ⟨k - 1, by omega⟩
    rw [spec_TurnsOk.l0, if_neg (by omega)]
  | d + 1, p, k, h1', h2 => by
    obtain ⟨k, rfl⟩ : ∃ m, k = m + 1 := ⟨k - 1, by omega⟩
    rw [spec_TurnsOk.l0, if_pos (by omega), if_pos (by omega), if_pos (by rw [rowsOf_len]; omega), rowsOf_at cosAt n c p (by omega), if_pos (by rw [rowOf_len]), if_pos (by rw [rowsOf_len]; omega), rowsOf_at sinAt n c p (by omega), if_pos (by rw [rowOf_len]),
      all_tells (-128) 128 _ (by rw [rowOf_len]; omega) k (by rw [rowOf_len]; omega), rowOf_all cosAt cos_bd, Option.bind_some, if_pos rfl, all_tells (-128) 128 _ (by rw [rowOf_len]; omega) k (by rw [rowOf_len]; omega), rowOf_all sinAt sin_bd, Option.bind_some, if_pos rfl,
      w64 (i := (p : Int) + 1) (by omega) (by omega), show (p : Int) + 1 = ((p + 1 : Nat) : Int) by omega]
    exact spec_turnsOk_from n c h1 hn hc d (p + 1) k (by omega) (by omega)
theorem spec_turnsOk (n c : Nat) (h1 : 1 ≤ n) (hn : n ≤ 4) (h4 : 4 ≤ c) (hc : c ≤ 24) (k : Nat) (hk : 50 < k) : spec_TurnsOk.f k (rowsOf cosAt n c) (rowsOf sinAt n c) (c : Int) (n : Int) = some true := by
  obtain ⟨k, rfl⟩ : ∃ m, k = m + 1 := ⟨k - 1, by omega⟩
  unfold spec_TurnsOk.f spec_l01In.f
  rw [if_pos (by omega), Option.bind_some, if_pos (by simp; omega), if_pos (by omega), Option.bind_some, if_pos (by simp; omega), if_pos (by rw [rowsOf_len]), spec_TurnsOk.j0, if_neg (by rw [rowsOf_len]; simp)]
  exact spec_turnsOk_from n c h1 hn hc c 0 k (by omega) (by omega)
theorem spec_turns_row (n c p : Nat) (hn : n ≤ 4) (hp : p ≤ 24) (P Q : List (List Int)) (hP : P.length ≤ 24) (hQ : Q.length ≤ 24) : ∀ d i k, i + d = n → d < k →
    spec_TurnsFor.l1 k (c : Int) (n : Int) (p : Int) (rowOf cosAt i p) (rowOf sinAt i p) (i : Int) P Q = spec_TurnsFor.l0 (k - d - 1) (c : Int) (n : Int) ((p + 1 : Nat) : Int) (P ++ [rowOf cosAt n p]) (Q ++ [rowOf sinAt n p])
  | 0, i, k, h1, h2 => by
    obtain ⟨k, rfl⟩ : ∃ m, k = m + 1 := ⟨k - 1, by omega⟩
    obtain rfl : i = n := by omega
    rw [spec_TurnsFor.l1, if_neg (by omega), if_pos (by omega), if_pos (by omega), w64 (i := (p : Int) + 1) (by omega) (by omega), show (p : Int) + 1 = ((p + 1 : Nat) : Int) by omega]
    rfl
  | d + 1, i, k, h1, h2 => by
    obtain ⟨k, rfl⟩ : ∃ m, k = m + 1 := ⟨k - 1, by omega⟩
    rw [spec_TurnsFor.l1, if_pos (by omega), if_pos (by rw [rowOf_len]; omega), if_pos (by rw [rowOf_len]; omega), cos_at p i hp (by omega), sin_at p i hp (by omega), w64 (i := (i : Int) + 1) (by omega) (by omega), show (i : Int) + 1 = ((i + 1 : Nat) : Int) by omega,
      show rowOf cosAt i p ++ [cosAt p i] = rowOf cosAt (i + 1) p from (range_succ_map _ _).symm, show rowOf sinAt i p ++ [sinAt p i] = rowOf sinAt (i + 1) p from (range_succ_map _ _).symm, spec_turns_row n c p hn hp P Q hP hQ d (i + 1) k (by omega) (by omega)]
    rw [show k + 1 - (d + 1) - 1 = k - d - 1 by omega]
theorem spec_turns_rows (n c : Nat) (h1' : 1 ≤ n) (hn : n ≤ 4) (h4 : 4 ≤ c) (hc : c ≤ 24) : ∀ d p k, p + d = c → d * (n + 2) + 60 < k →
    spec_TurnsFor.l0 k (c : Int) (n : Int) (p : Int) (rowsOf cosAt n p) (rowsOf sinAt n p) = some (rowsOf cosAt n c, rowsOf sinAt n c, true)
  | 0, p, k, h1, h2 => by
    obtain ⟨k, rfl⟩ : ∃ m, k = m + 1 := ⟨k - 1, by omega⟩
    obtain rfl : p = c := by omega
    rw [spec_TurnsFor.l0, if_neg (by omega), spec_turnsOk n p h1' hn h4 hc k (by omega), Option.bind_some]
  | d + 1, p, k, h1, h2 => by
    have h3 : (d + 1) * (n + 2) = d * (n + 2) + (n + 2) := Nat.succ_mul _ _
    obtain ⟨k, rfl⟩ : ∃ m, k = m + 1 := ⟨k - 1, by omega⟩
    have e := spec_turns_row n c p hn (by omega) (rowsOf cosAt n p) (rowsOf sinAt n p) (by rw [rowsOf_len]; omega) (by rw [rowsOf_len]; omega) n 0 k (by omega) (by omega)
    rw [spec_TurnsFor.l0, if_pos (by omega)]
    have e0 : spec_TurnsFor.l1 k (c : Int) (n : Int) (p : Int) [] [] 0 (rowsOf cosAt n p) (rowsOf sinAt n p) = _ := e
    rw [e0, show rowsOf cosAt n p ++ [rowOf cosAt n p] = rowsOf cosAt n (p + 1) from (range_succ_map _ _).symm, show rowsOf sinAt n p ++ [rowOf sinAt n p] = rowsOf sinAt n (p + 1) from (range_succ_map _ _).symm]
    exact spec_turns_rows n c h1' hn h4 hc d (p + 1) (k - n - 1) (by omega) (by omega)
theorem spec_turnsFor (n c : Nat) (h1 : 1 ≤ n) (hn : n ≤ 4) (h4 : 4 ≤ c) (hc : c ≤ 24) (k : Nat) (hk : 300 < k) : spec_TurnsFor.f k (c : Int) (n : Int) = some (rowsOf cosAt n c, rowsOf sinAt n c, true) := by
  obtain ⟨j, rfl⟩ : ∃ m, k = m + 1 := ⟨k - 1, by omega⟩
  unfold spec_TurnsFor.f spec_l01In.f
  rw [if_pos (by omega), Option.bind_some, if_pos (by simp; omega), if_pos (by omega), Option.bind_some, decide_eq_true (by omega)]
  simp only [spec_TurnsFor.j0]
  rw [if_neg (by simp)]
  have hm : c * (n + 2) ≤ 24 * 6 := Nat.mul_le_mul hc (by omega)
  exact spec_turns_rows n c h1 hn h4 hc c 0 j (by omega) (by omega)
theorem rowsOf_size (f : Nat → Nat → Int) (n c : Nat) (hn : n ≤ 4) : ∀ c, mIntss (rowsOf f n c) ≤ c * 5 ∧ ((rowsOf f n c).map List.length).sum ≤ c * 4
  | 0 => by simp [rowsOf, mIntss, szL, sumS]
  | c + 1 => by
    have ih := rowsOf_size f n c hn c
    have e : rowsOf f n (c + 1) = rowsOf f n c ++ [rowOf f n c] := range_succ_map _ _
    have e2 := mIntss_eq (rowsOf f n (c + 1))
    have e3 := mIntss_eq (rowsOf f n c)
    rw [sumS_map_sum] at e2 e3
    rw [e2, e, List.map_append, List.sum_append, List.length_append]
    simp only [List.map_cons, List.map_nil, List.sum_cons, List.sum_nil, List.length_cons, List.length_nil, rowOf_len]
    omega

section
variable {α ρ : Type} (l : List α) (B : α → Bool)
end

theorem onceG_k (k k' : Nat) (x : S140) (n : Int) : spec_l01Once.g k x n = spec_l01Once.g k' x n := rfl
/-- one end of a drawn merge -/
theorem pickG (x : S140) (i h : Int) (hc : Cu x.f0 i) (j : Nat) (hj : j ≤ 8) (n : Int) (hn : 0 < n) (hn2 : n ≤ 100) (a : Int) : ∃ i' h' A, (∀ k, ((if (j : Int) > 0 then ((spec_l01Once.g k (⟨x.f0, i, h⟩ : S140) n).bind fun t222 => (if t222.1 = true then ((spec_l01Below.g k (⟨x.f0, t222.2.f1, t222.2.f2⟩ : S140) (j : Int)).bind fun t226 => (some (t226.2.f1, t226.2.f2, wrap64 (256 + t226.1)))) else (some (t222.2.f1, t222.2.f2, a)))) else (some (i, h, a))) : Option (Int × Int × Int)) = some (i', h', A)) ∧ Cu x.f0 i' := by
  by_cases hz : (j : Int) > 0
  · obtain ⟨v, i1, h1, e, hc1⟩ := onceG 0 x.f0 i h hc n hn (by omega)
    obtain ⟨u, i2, h2, e2, _, _, hc2⟩ := belowG 0 x.f0 i1 h1 hc1 (j : Int) (by omega) (by omega)
    cases v with
    | true => exact ⟨i2, h2, _, fun k => by rw [if_pos hz, onceG_k k 0, e, Option.bind_some, if_pos rfl, belowG_k k 0, e2, Option.bind_some], hc2⟩
    | false => exact ⟨i1, h1, _, fun k => by rw [if_pos hz, onceG_k k 0, e, Option.bind_some, if_neg (by simp)], hc1⟩
  · exact ⟨i, h, a, fun k => by rw [if_neg hz], hc⟩
theorem mergesB_len (l : List S112) (h : mergesB l = true) : l.length ≤ 16 := by
  unfold mergesB at h; simp only [Bool.and_eq_true, decide_eq_true_eq] at h; exact h.1
theorem mergesG_from (x : S140) (d : Nat) : ∀ (j : Nat) (xs : List S112) (i h : Int), j + d = 9 → mergesB xs = true → Cu x.f0 i →
    ∃ r i' h', (∀ k, d + 2100 < k → ((spec_l07Merges.l0 x k xs (j : Int) i h).bind fun o => match o with | .inl r_ => some r_ | .inr ⟨xs11, _, i15, i16⟩ => some (xs11, (⟨x.f0, i15, i16⟩ : S140))) = some (r, ⟨x.f0, i', h'⟩)) ∧ mergesB r = true ∧ Cu x.f0 i' := by
  induction d with
  | zero =>
    intro j xs i h hj hm hc
    obtain ⟨v, i1, h1, e, v0, v1, hc1⟩ := belowG 0 x.f0 i h hc 9 (by omega) (by omega)
    refine ⟨xs, i1, h1, fun k hk => ?_, hm, hc1⟩
    obtain ⟨k, rfl⟩ : ∃ m, k = m + 1 := ⟨k - 1, by omega⟩
    unfold spec_l07Merges.l0 spec_l07Merges.b0
    rw [belowG_k k 0, e, Option.bind_some, if_neg (by omega)]; rfl
  | succ d ih =>
    intro j xs i h hj hm hc
    obtain ⟨v, i1, h1, e, v0, v1, hc1⟩ := belowG 0 x.f0 i h hc 9 (by omega) (by omega)
    by_cases hlt : (j : Int) < v
    · obtain ⟨a, i2, h2, e2, a0, a1, hc2⟩ := belowG 0 x.f0 i1 h1 hc1 3 (by omega) (by omega)
      obtain ⟨c, i3, h3, e3, c0, c1, hc3⟩ := belowG 0 x.f0 i2 h2 hc2 3 (by omega) (by omega)
      obtain ⟨i4, h4, A, e4, hc4⟩ := pickG x i3 h3 hc3 j (by omega) 2 (by omega) (by omega) (wrap64 (97 + a))
      obtain ⟨i5, h5, B, e5, hc5⟩ := pickG x i4 h4 hc4 j (by omega) 3 (by omega) (by omega) (wrap64 (97 + c))
      have hl := mergesB_len xs hm
      obtain ⟨ys, hys, hmy⟩ : ∃ ys, (∀ k, 2000 < k → ((spec_MergesOk.f k (([] : List S112) ++ xs ++ [(⟨A, B⟩ : S112)])).bind fun t116 => (if t116 = true then (some (([] : List S112) ++ xs ++ [(⟨A, B⟩ : S112)])) else (some xs))) = some ys) ∧ mergesB ys = true := by
        cases g : mergesB (([] : List S112) ++ xs ++ [(⟨A, B⟩ : S112)]) with
        | true => exact ⟨_, fun k hk => by rw [spec_merges _ k hk, Option.bind_some, g, if_pos rfl], g⟩
        | false => exact ⟨xs, fun k hk => by rw [spec_merges _ k hk, Option.bind_some, g, if_neg (by simp)], hm⟩
      by_cases hle : (ys.length : Int) ≤ (j : Int)
      · refine ⟨ys, i5, h5, fun k hk => ?_, hmy, hc5⟩
        obtain ⟨k, rfl⟩ : ∃ m, k = m + 1 := ⟨k - 1, by omega⟩
        unfold spec_l07Merges.l0 spec_l07Merges.b0
        rw [belowG_k k 0, e, Option.bind_some, if_pos hlt, belowG_k k 0, e2, Option.bind_some, belowG_k k 0, e3, Option.bind_some, e4 k, Option.bind_some, e5 k, Option.bind_some, if_pos (by omega), if_pos (by simp; omega), hys k (by omega), Option.bind_some, if_pos hle]; rfl
      · obtain ⟨r, i', h', hr, g1, g2⟩ := ih (j + 1) ys i5 h5 (by omega) hmy hc5
        refine ⟨r, i', h', fun k hk => ?_, g1, g2⟩
        obtain ⟨k, rfl⟩ : ∃ m, k = m + 1 := ⟨k - 1, by omega⟩
        unfold spec_l07Merges.l0 spec_l07Merges.b0
        rw [belowG_k k 0, e, Option.bind_some, if_pos hlt, belowG_k k 0, e2, Option.bind_some, belowG_k k 0, e3, Option.bind_some, e4 k, Option.bind_some, e5 k, Option.bind_some, if_pos (by omega), if_pos (by simp; omega), hys k (by omega), Option.bind_some, if_neg hle, Option.bind_some, w64 (by omega) (by omega), show ((j : Int) + 1) = ((j + 1 : Nat) : Int) by omega]
        exact hr k (by omega)
    · refine ⟨xs, i1, h1, fun k hk => ?_, hm, hc1⟩
      obtain ⟨k, rfl⟩ : ∃ m, k = m + 1 := ⟨k - 1, by omega⟩
      unfold spec_l07Merges.l0 spec_l07Merges.b0
      rw [belowG_k k 0, e, Option.bind_some, if_neg hlt]; rfl
theorem mergesG (b : List Int) (i h : Int) (hc : Cu b i) : ∃ r i' h', (∀ k, 2200 < k → spec_l07Merges.g k ⟨b, i, h⟩ = some (r, ⟨b, i', h'⟩)) ∧ mergesB r = true ∧ Cu b i' := by
  obtain ⟨r, i', h', hr, g1, g2⟩ := mergesG_from ⟨b, i, h⟩ 9 0 [] i h (by omega) (by decide) hc
  exact ⟨r, i', h', fun k hk => hr k (by omega), g1, g2⟩
theorem sumS_bd {α : Type} (s : α → Nat) (c : Nat) : ∀ l : List α, (∀ x ∈ l, s x ≤ c) → sumS s l ≤ l.length * c
  | [], _ => Nat.zero_le _
  | x :: l, h => by
    have h1 := h x (List.mem_cons_self ..)
    have h2 := sumS_bd s c l (fun y hy => h y (List.mem_cons_of_mem _ hy))
    rw [sumS_cons, List.length_cons, Nat.succ_mul]; omega
theorem mem_getD {α : Type} (l : List α) (z x : α) (h : x ∈ l) : ∃ q, q < l.length ∧ l.getD q z = x := by
  obtain ⟨q, hq, e⟩ := List.getElem_of_mem h
  exact ⟨q, hq, by rw [List.getD_eq_getElem?_getD, List.getElem?_eq_getElem hq]; exact e⟩
theorem wst_low (r s : List Int) (w : Nat) (hw : w = 4 ∨ w = 8) (h : RowG w r s) : wst r s ≤ 600000 := by
  have hb := rowG_ok w hw r s h
  obtain ⟨h1, h2, h3, h4⟩ := h
  have key : ∀ n, n ≤ r.length → 0 ≤ wstTo r s n ∧ wstTo r s n ≤ 30480 * (n : Int) := by
    intro n
    induction n with
    | zero => intro _; exact ⟨Int.le_refl _, by show (0 : Int) ≤ _; omega⟩
    | succ n ih =>
      intro hn
      obtain ⟨a, b⟩ := ih (by omega)
      obtain ⟨_, _, t3, t4, _⟩ := wst_term r s hb n (by omega)
      have hs := h4 _ (rd_mem s (n / 4) (by omega))
      have e : wstTo r s (n + 1) = wstTo r s n + rd s ((n / 4 : Nat) : Int) * 127 * ((rd r (n : Int)).natAbs : Int) := rfl
      have m : rd s ((n / 4 : Nat) : Int) * 127 * ((rd r (n : Int)).natAbs : Int) ≤ 3810 * 8 := Int.mul_le_mul (by omega) t3 (by omega) (by omega)
      rw [e]; omega
  unfold wst
  rw [if_pos hb]
  have := (key r.length (Nat.le_refl _)).2
  omega
theorem wst_pos (r s : List Int) (w : Nat) (hw : w = 4 ∨ w = 8) (h : RowG w r s) (p : Nat) (hp : p < w) (hn : r.getD p 0 ≠ 0) : 0 < wst r s := by
  have hb := rowG_ok w hw r s h
  obtain ⟨h1, h2, h3, h4⟩ := h
  have e0 : rd r (p : Int) = r.getD p 0 := by rw [rd_get r p (by omega), List.getD_eq_getElem?_getD, List.getElem?_eq_getElem (by omega)]; rfl
  have key : ∀ n, n ≤ r.length → 0 ≤ wstTo r s n ∧ (p < n → 0 < wstTo r s n) := by
    intro n
    induction n with
    | zero => intro _; exact ⟨Int.le_refl _, fun h => absurd h (Nat.not_lt_zero _)⟩
    | succ n ih =>
      intro hn'
      obtain ⟨a, b⟩ := ih (by omega)
      obtain ⟨t1, _, _, t4, _⟩ := wst_term r s hb n (by omega)
      have hs := h4 _ (rd_mem s (n / 4) (by omega))
      have e : wstTo r s (n + 1) = wstTo r s n + rd s ((n / 4 : Nat) : Int) * 127 * ((rd r (n : Int)).natAbs : Int) := rfl
      refine ⟨by rw [e]; omega, fun hlt => ?_⟩
      by_cases c : p = n
      · have n1 : 1 ≤ ((rd r (n : Int)).natAbs : Int) := by
          have : rd r (n : Int) ≠ 0 := by rw [← c, e0]; exact hn
          omega
        have m : 127 * 1 ≤ rd s ((n / 4 : Nat) : Int) * 127 * ((rd r (n : Int)).natAbs : Int) := Int.mul_le_mul (by omega) n1 (by omega) t1
        rw [e]; omega
      · have := b (by omega)
        rw [e]; omega
  unfold wst
  rw [if_pos hb]
  exact (key r.length (Nat.le_refl _)).2 (by omega)
theorem mat_good (w n : Nat) (hw : w = 4 ∨ w = 8) (hn : n ≤ 300) (R S : List (List Int)) (M H : Int) (hR : R.length = n) (hS : S.length = n) (m0 : 0 ≤ M) (m1 : M ≤ 65536) (s0 : 0 ≤ H) (s1 : H ≤ 24) (h : ∀ q, q < n → RowG w (R.getD q []) (S.getD q [])) :
    mfit ⟨(w : Int), R, S, M, H⟩ (w : Int) (n : Int) = true ∧ iMatrix ⟨(w : Int), R, S, M, H⟩ ≤ 12 * n := by
  constructor
  · unfold mfit fitB matB lowB widthB
    simp only [Bool.and_eq_true, Bool.or_eq_true, decide_eq_true_eq, List.all_eq_true, List.drop_zero, List.mem_range]
    refine ⟨⟨⟨⟨⟨⟨⟨⟨by omega, by omega⟩, by omega⟩, m0⟩, m1⟩, s0⟩, s1⟩, fun q hq => ?_⟩, trivial, by omega, fun q hq => ?_⟩
    · have g := h q (by omega)
      exact ⟨by rw [g.1], rowG_ok w hw _ _ g⟩
    · exact wst_low _ _ w hw (h q (by omega))
  · unfold iMatrix
    have a : sumS (fun l : List Int => l.length) R ≤ R.length * 8 := sumS_bd _ 8 R (fun r hr => by
      obtain ⟨q, hq, rfl⟩ := mem_getD R [] r hr
      have := (h q (by omega)).1; omega)
    have c : sumS (fun l : List Int => l.length) S ≤ S.length * 2 := sumS_bd _ 2 S (fun r hr => by
      obtain ⟨q, hq, rfl⟩ := mem_getD S [] r hr
      have := (h q (by omega)).2.2.1; omega)
    show mIntss R + mIntss S ≤ _
    rw [mIntss_eq, mIntss_eq]
    omega
theorem gain_good (l : List Int) (n : Nat) (hl : l.length = n) (h : ∀ z ∈ l, 0 ≤ z ∧ z ≤ 127) : gainB l (n : Int) = true := by
  unfold gainB
  rw [if_pos (by omega)]
  simp only [Bool.and_eq_true, decide_eq_true_eq, List.all_eq_true]
  exact h
/-- a fact that arithmetic does not look at -/
def Hid (p : Prop) : Prop := p
theorem Hid.out {p : Prop} (h : Hid p) : p := h
/-- a good layer, and its size -/
def LayG (D : Nat) (y : S48) : Prop := layerB y (D : Int) = true ∧ iLayer y ≤ 1000 ∧ (y.f6.f1.length = 4 ∨ y.f6.f1.length = 8)
/-- the draws of a layer, one behind the other -/
def layChain {ρ : Type} (k : Nat) (b : List Int) (i h : Int) (D U : Int) (F : S48 → Int → Int → Option ρ) : Option ρ :=
  (spec_l10Gain.g k (⟨b, i, h⟩ : S140) D).bind fun t227 => (spec_l10Gain.g k (⟨b, t227.2.f1, t227.2.f2⟩ : S140) D).bind fun t234 => (spec_l05Matrix.g k (⟨b, t234.2.f1, t234.2.f2⟩ : S140) D D).bind fun t245 => (spec_l05Matrix.g k (⟨b, t245.2.f1, t245.2.f2⟩ : S140) D D).bind fun t258 => (spec_l05Matrix.g k (⟨b, t258.2.f1, t258.2.f2⟩ : S140) D D).bind fun t271 => (spec_l05Matrix.g k (⟨b, t271.2.f1, t271.2.f2⟩ : S140) D D).bind fun t284 => (spec_l05Matrix.g k (⟨b, t284.2.f1, t284.2.f2⟩ : S140) D U).bind fun t297 => (spec_l05Matrix.g k (⟨b, t297.2.f1, t297.2.f2⟩ : S140) U D).bind fun t310 =>
    F (⟨t227.1, (⟨t245.1.f0, t245.1.f1, t245.1.f2, t245.1.f3, t245.1.f4⟩ : S36), (⟨t258.1.f0, t258.1.f1, t258.1.f2, t258.1.f3, t258.1.f4⟩ : S36), (⟨t271.1.f0, t271.1.f1, t271.1.f2, t271.1.f3, t271.1.f4⟩ : S36), (⟨t284.1.f0, t284.1.f1, t284.1.f2, t284.1.f3, t284.1.f4⟩ : S36), t234.1, (⟨t297.1.f0, t297.1.f1, t297.1.f2, t297.1.f3, t297.1.f4⟩ : S36), (⟨t310.1.f0, t310.1.f1, t310.1.f2, t310.1.f3, t310.1.f4⟩ : S36)⟩ : S48) t310.2.f1 t310.2.f2
theorem matGood (b : List Int) (i h : Int) (hc : Cu b i) (w n : Nat) (hw : w = 4 ∨ w = 8) (hn : n ≤ 300) :
    ∃ m i' h', (∀ k, 330 < k → spec_l05Matrix.g k ⟨b, i, h⟩ (w : Int) (n : Int) = some (m, ⟨b, i', h'⟩)) ∧ mfit m (w : Int) (n : Int) = true ∧ iMatrix m ≤ 12 * n ∧ m.f1.length = n ∧ Cu b i' := by
  obtain ⟨R, S, M, H, i', h', e, r, s, m, m', p, p', hc', g⟩ := matG b i h hc w n hw hn
  obtain ⟨a, c⟩ := mat_good w n hw hn R S M H r s (by omega) (by omega) (by omega) (by omega) g
  exact ⟨_, i', h', fun k hk => e k (by omega), a, c, r, hc'⟩
theorem lay_all (D U : Nat) (hU : U = 4 ∨ U = 8) (g1 g2 : List Int) (m1 m2 m3 m4 m5 m6 : S36) (l1 : g1.length = D) (l2 : g2.length = D) (b1 : ∀ z ∈ g1, 0 ≤ z ∧ z ≤ 127) (b2 : ∀ z ∈ g2, 0 ≤ z ∧ z ≤ 127)
    (a1 : mfit m1 (D : Int) (D : Int) = true) (a2 : mfit m2 (D : Int) (D : Int) = true) (a3 : mfit m3 (D : Int) (D : Int) = true) (a4 : mfit m4 (D : Int) (D : Int) = true) (a5 : mfit m5 (D : Int) (U : Int) = true) (a6 : mfit m6 (U : Int) (D : Int) = true) (r5 : m5.f1.length = U) : layerB ⟨g1, m1, m2, m3, m4, g2, m5, m6⟩ (D : Int) = true := by
  unfold layerB
  show (gainB g1 (D : Int) && (gainB g2 (D : Int) && (widthB (m5.f1.length : Int) && (mfit m1 (D : Int) (D : Int) && (mfit m2 (D : Int) (D : Int) && (mfit m3 (D : Int) (D : Int) && (mfit m4 (D : Int) (D : Int) && (mfit m5 (D : Int) (m5.f1.length : Int) && mfit m6 (m5.f1.length : Int) (D : Int))))))))) = true
  rw [r5, gain_good g1 D l1 b1, gain_good g2 D l2 b2, a1, a2, a3, a4, a5, a6]
  cases hU with
  | inl h => rw [h]; rfl
  | inr h => rw [h]; rfl
theorem layDraw (b : List Int) (i h : Int) (hc : Cu b i) (D U : Nat) (hD : D = 4 ∨ D = 8) (hU : U = 4 ∨ U = 8) : ∃ y i' h', (∀ k, 330 < k → ∀ {ρ : Type} (F : S48 → Int → Int → Option ρ), layChain k b i h (D : Int) (U : Int) F = F y i' h') ∧ LayG D y ∧ Cu b i' := by
  have d8 : D ≤ 8 := by omega
  have u8 : U ≤ 8 := by omega
  obtain ⟨g1, i3, h3, e3, l1, b1, hc3⟩ := gainG b D (by omega) i h hc
  obtain ⟨g2, i4, h4, e4, l2, b2, hc4⟩ := gainG b D (by omega) i3 h3 hc3
  obtain ⟨m1, i5, h5, e5, a1, c1, r1, hc5⟩ := matGood b i4 h4 hc4 D D hD (by omega)
  obtain ⟨m2, i6, h6, e6, a2, c2, r2, hc6⟩ := matGood b i5 h5 hc5 D D hD (by omega)
  obtain ⟨m3, i7, h7, e7, a3, c3, r3, hc7⟩ := matGood b i6 h6 hc6 D D hD (by omega)
  obtain ⟨m4, i8, h8, e8, a4, c4, r4, hc8⟩ := matGood b i7 h7 hc7 D D hD (by omega)
  obtain ⟨m5, i9, h9, e9, a5, c5, r5, hc9⟩ := matGood b i8 h8 hc8 D U hD (by omega)
  obtain ⟨m6, i10, h10, e10, a6, c6, r6, hc10⟩ := matGood b i9 h9 hc9 U D hU (by omega)
  refine ⟨⟨g1, m1, m2, m3, m4, g2, m5, m6⟩, i10, h10, fun k hk ρ F => ?_, ⟨lay_all D U hU g1 g2 m1 m2 m3 m4 m5 m6 l1 l2 b1 b2 a1 a2 a3 a4 a5 a6 r5, ?_, ?_⟩, hc10⟩
  · have hk' : D < k := by clear e3 e4 e5 e6 e7 e8 e9 e10; omega
    unfold layChain
    rw [e3 k hk', Option.bind_some, e4 k hk', Option.bind_some, e5 k hk, Option.bind_some, e6 k hk, Option.bind_some, e7 k hk, Option.bind_some, e8 k hk, Option.bind_some, e9 k hk, Option.bind_some, e10 k hk, Option.bind_some]
  · show g1.length + (iMatrix m1 + (iMatrix m2 + (iMatrix m3 + (iMatrix m4 + (g2.length + (iMatrix m5 + iMatrix m6)))))) ≤ 1000
    clear e3 e4 e5 e6 e7 e8 e9 e10
    omega
  · show m5.f1.length = 4 ∨ m5.f1.length = 8
    rw [r5]; exact hU
theorem layG_from (b : List Int) (D : Nat) (hD : D = 4 ∨ D = 8) (L : Nat → Int → Int → Int → List S48 → Option (Int × Int × Int × List S48))
    (hL : ∀ k j i h xs, L (k + 1) j i h xs = ((spec_l01Below.g k (⟨b, i, h⟩ : S140) 2).bind fun t216 => if j < wrap64 (1 + t216.1) then ((spec_l01Below.g k (⟨b, t216.2.f1, t216.2.f2⟩ : S140) 2).bind fun t222 => layChain k b t222.2.f1 t222.2.f2 (D : Int) (wrap64 (4 * wrap64 (1 + t222.1))) (fun y a c => if xs.length < 4294967296 then L k (wrap64 (j + 1)) a c (xs ++ [y]) else none)) else some (j, t216.2.f1, t216.2.f2, xs))) (d : Nat) :
    ∀ (j : Nat) (xs : List S48) (i h : Int), j + d = 2 → xs.length = j → (∀ y ∈ xs, LayG D y) → Cu b i →
    ∃ r i' h' q, (∀ k, d + 340 < k → L k (j : Int) i h xs = some (q, i', h', r)) ∧ (1 ≤ r.length ∧ r.length ≤ 2) ∧ (∀ y ∈ r, LayG D y) ∧ Cu b i' := by
  induction d with
  | zero =>
    intro j xs i h hj hl hx hc
    obtain ⟨v, i1, h1, e, v0, v1, hc1⟩ := belowG 0 b i h hc 2 (by omega) (by omega)
    refine ⟨xs, i1, h1, (j : Int), fun k hk => ?_, by omega, hx, hc1⟩
    obtain ⟨k, rfl⟩ : ∃ m, k = m + 1 := ⟨k - 1, by omega⟩
    rw [hL, belowG_k k 0, e, Option.bind_some, w64 (i := 1 + v) (by omega) (by omega), if_neg (by omega)]
  | succ d ih =>
    intro j xs i h hj hl hx hc
    obtain ⟨v, i1, h1, e, v0, v1, hc1⟩ := belowG 0 b i h hc 2 (by omega) (by omega)
    by_cases hlt : (j : Int) < 1 + v
    · obtain ⟨u, i2, h2, e2, u0, u1, hc2⟩ := belowG 0 b i1 h1 hc1 2 (by omega) (by omega)
      obtain ⟨U, hU, hU2⟩ : ∃ U : Nat, 4 * (1 + u) = (U : Int) ∧ (U = 4 ∨ U = 8) := ⟨(4 * (1 + u)).toNat, by omega, by omega⟩
      obtain ⟨y, i3, h3, e3, gy, hc3⟩ := layDraw b i2 h2 hc2 D U hD hU2
      obtain ⟨r, i', h', q, hr, q1, q2, q3⟩ := ih (j + 1) (xs ++ [y]) i3 h3 (by omega) (by simp; omega) (fun y' hy => by
        rcases List.mem_append.1 hy with hy | hy
        · exact hx y' hy
        · rw [List.mem_singleton.1 hy]; exact gy) hc3
      refine ⟨r, i', h', q, fun k hk => ?_, q1, q2, q3⟩
      obtain ⟨k, rfl⟩ : ∃ m, k = m + 1 := ⟨k - 1, by omega⟩
      rw [hL, belowG_k k 0, e, Option.bind_some, w64 (i := 1 + v) (by omega) (by omega), if_pos hlt, belowG_k k 0, e2, Option.bind_some, w64 (i := 1 + u) (by omega) (by omega), w64 (i := 4 * (1 + u)) (by omega) (by omega), hU, e3 k (by omega), if_pos (by omega), w64 (by omega) (by omega), show ((j : Int) + 1) = ((j + 1 : Nat) : Int) by omega]
      exact hr k (by omega)
    · refine ⟨xs, i1, h1, (j : Int), fun k hk => ?_, by omega, hx, hc1⟩
      obtain ⟨k, rfl⟩ : ∃ m, k = m + 1 := ⟨k - 1, by omega⟩
      rw [hL, belowG_k k 0, e, Option.bind_some, w64 (i := 1 + v) (by omega) (by omega), if_neg hlt]
theorem layG (x : S140) (D : Nat) (hD : D = 4 ∨ D = 8) (t5 : Int × S140) (ht : wrap64 (4 * wrap64 (1 + t5.1)) = (D : Int)) (i h : Int) (hc : Cu x.f0 i) : ∃ r i' h' q, (∀ k, 345 < k → spec_l10Right.l2 x t5 k 0 i h [] = some (q, i', h', r)) ∧ (1 ≤ r.length ∧ r.length ≤ 2) ∧ (∀ y ∈ r, LayG D y) ∧ Cu x.f0 i' := by
  obtain ⟨r, i', h', q, hr, g⟩ := layG_from x.f0 D hD (spec_l10Right.l2 x t5) (fun k j i h xs => by
    show spec_l10Right.b2 x t5 (spec_l10Right.l2 x t5 k) k j i h xs = _
    unfold spec_l10Right.b2 layChain
    rw [ht]) 2 0 [] i h (by omega) rfl (fun y hy => by cases hy) hc
  exact ⟨r, i', h', q, fun k hk => hr k (by omega), g⟩
/-- a list of numbers that are told by their places -/
theorem appList (F : Int → Int) (P : Int → Prop) (n : Nat) (hn : n ≤ 100000) (hP : ∀ j : Nat, j < n → P (F (j : Int))) (L : Nat → List Int → Int → Option (List Int × Int)) (hL : ∀ k xs j, L (k + 1) xs j = if j < (n : Int) then (if xs.length < 4294967296 then L k (xs ++ [F j]) (wrap64 (j + 1)) else none) else some (xs, j)) (d : Nat) :
    ∀ (j : Nat) (acc : List Int), j + d = n → acc.length = j → (∀ z ∈ acc, P z) → ∃ r, (∀ k, d < k → L k acc (j : Int) = some (r, (n : Int))) ∧ r.length = n ∧ ∀ z ∈ r, P z := by
  induction d with
  | zero =>
    intro j acc hj ha hz
    refine ⟨acc, fun k hk => ?_, by omega, hz⟩
    obtain ⟨k, rfl⟩ : ∃ m, k = m + 1 := ⟨k - 1, by omega⟩
    rw [hL, if_neg (by omega), show (j : Int) = (n : Int) by omega]
  | succ d ih =>
    intro j acc hj ha hz
    obtain ⟨r, hr, h1, h2⟩ := ih (j + 1) (acc ++ [F (j : Int)]) (by omega) (by simp; omega) (fun z hz1 => by
      rcases List.mem_append.1 hz1 with h | h
      · exact hz z h
      · rw [List.mem_singleton.1 h]; exact hP j (by omega))
    refine ⟨r, fun k hk => ?_, h1, h2⟩
    obtain ⟨k, rfl⟩ : ∃ m, k = m + 1 := ⟨k - 1, by omega⟩
    rw [hL, if_pos (by omega), if_pos (by omega), w64 (by omega) (by omega), show ((j : Int) + 1) = ((j + 1 : Nat) : Int) by omega]
    exact hr k (by omega)
theorem small_prod (i k A B : Int) (h0 : 0 ≤ i) (h1 : i ≤ A) (k0 : 0 ≤ k) (k1 : k ≤ B) : 0 ≤ i * k ∧ i * k ≤ A * B := ⟨Int.mul_nonneg h0 k0, Int.mul_le_mul h1 k1 k0 (by omega)⟩
theorem embG (D V : Nat) (hD : D = 4 ∨ D = 8) (hV : V ≤ 300) (t5 t31 : Int × S140) (ht : Hid (wrap64 (4 * wrap64 (1 + t5.1)) = (D : Int))) (s0 : 0 ≤ t31.1) (s1 : t31.1 < 1000) (d : Nat) : ∀ (j : Nat) (acc : List (List Int)), j + d = V → acc.length = j → (∀ r ∈ acc, rowI (D : Int) r = true) →
    ∃ R, (∀ k, d + 20 < k → spec_l10Right.l3 t5 (V : Int) t31 k (j : Int) acc = some ((V : Int), R)) ∧ R.length = V ∧ ∀ r ∈ R, rowI (D : Int) r = true := by
  induction d with
  | zero =>
    intro j acc hj ha hz
    refine ⟨acc, fun k hk => ?_, by omega, hz⟩
    obtain ⟨k, rfl⟩ : ∃ m, k = m + 1 := ⟨k - 1, by omega⟩
    unfold spec_l10Right.l3 spec_l10Right.b3
    rw [if_neg (by omega), show (j : Int) = (V : Int) by omega]
  | succ d ih =>
    intro j acc hj ha hz
    obtain ⟨r, hr, r1, r2⟩ := appList (fun i554 => wrap64 ((Int.tmod (wrap64 ((wrap64 ((wrap64 (t31.1 + (wrap64 ((j : Int) * 37)))) + (wrap64 (i554 * 91)))) + (wrap64 ((wrap64 ((j : Int) * i554)) * 13)))) 255) - 127)) (fun z => -127 ≤ z ∧ z ≤ 127) D (by omega) (fun q hq => by
      have hp := small_prod (j : Int) (q : Int) 300 8 (by omega) (by omega) (by omega) (by omega)
      show -127 ≤ wrap64 _ ∧ wrap64 _ ≤ 127
      rw [w64 (i := (j : Int) * 37) (by omega) (by omega), w64 (i := t31.1 + (j : Int) * 37) (by omega) (by omega), w64 (i := (q : Int) * 91) (by omega) (by omega), w64 (i := (j : Int) * (q : Int)) (by omega) (by omega), w64 (i := t31.1 + (j : Int) * 37 + (q : Int) * 91) (by omega) (by omega), w64 (i := (j : Int) * (q : Int) * 13) (by omega) (by omega)]
      generalize (j : Int) * (q : Int) = p at hp ⊢
      rw [w64 (i := t31.1 + (j : Int) * 37 + (q : Int) * 91 + p * 13) (by omega) (by omega), Int.tmod_eq_emod_of_nonneg (by omega), w64 (by omega) (by omega)]
      omega) (spec_l10Right.l4 t5 t31 (j : Int)) (fun k xs i => by
      show spec_l10Right.b4 t5 t31 (j : Int) (spec_l10Right.l4 t5 t31 (j : Int) k) k xs i = _
      unfold spec_l10Right.b4
      rw [show _ = _ from ht]) D 0 [] (by omega) rfl (fun z hz => by cases hz)
    obtain ⟨R, hR, R1, R2⟩ := ih (j + 1) (acc ++ [r]) (by omega) (by simp; omega) (fun y hy => by
      rcases List.mem_append.1 hy with hy | hy
      · exact hz y hy
      · rw [List.mem_singleton.1 hy]
        unfold rowI
        simp only [Bool.and_eq_true, decide_eq_true_eq, List.all_eq_true]
        exact ⟨by omega, r2⟩)
    refine ⟨R, fun k hk => ?_, R1, R2⟩
    obtain ⟨k, rfl⟩ : ∃ m, k = m + 1 := ⟨k - 1, by omega⟩
    have hr' := hr k (by omega)
    rw [show ((0 : Nat) : Int) = 0 from rfl] at hr'
    unfold spec_l10Right.l3 spec_l10Right.b3
    rw [if_pos (by omega), hr', Option.bind_some, if_pos (by omega), w64 (by omega) (by omega), show ((j : Int) + 1) = ((j + 1 : Nat) : Int) by omega]
    exact hR k (by omega)
/-- what stands in a row of the head -/
def headAt (seed step i p : Int) : Int := wrap64 ((Int.tmod (wrap64 ((wrap64 ((wrap64 (seed + (wrap64 (i * (wrap64 (1 + step)))))) + (wrap64 (p * 7)))) + (wrap64 (i * p)))) 16) - 8)
theorem headAt_first (seed step : Int) (s0 : 0 ≤ seed) (s1 : seed < 1000) : headAt seed step 0 0 ≠ 0 ∨ headAt seed step 0 1 ≠ 0 := by
  unfold headAt
  generalize wrap64 (1 + step) = u
  have z : wrap64 0 = 0 := by decide +kernel
  have s7 : wrap64 7 = 7 := by decide +kernel
  have hw : wrap64 seed = seed := w64 (by omega) (by omega)
  have hv : wrap64 (seed + 7) = seed + 7 := w64 (by omega) (by omega)
  simp only [Int.zero_mul, Int.one_mul, z, s7, Int.add_zero, hw, hv]
  rw [Int.tmod_eq_emod_of_nonneg (by omega), Int.tmod_eq_emod_of_nonneg (by omega), w64 (i := seed % 16 - 8) (by omega) (by omega), w64 (i := (seed + 7) % 16 - 8) (by omega) (by omega)]
  omega
theorem headRow (D : Nat) (hD : D = 4 ∨ D = 8) (t5 t31 t72 : Int × S140) (ht : Hid (wrap64 (4 * wrap64 (1 + t5.1)) = (D : Int))) (s0 : 0 ≤ t31.1) (s1 : t31.1 < 1000) (p0 : 0 ≤ t72.1) (p1 : t72.1 < 40) (j : Nat) (hj : j ≤ 300) (d : Nat) : ∀ (q : Nat) (r s : List Int), q + d = D → r.length = q → s.length = (q + 3) / 4 → (∀ z ∈ r, -8 ≤ z ∧ z ≤ 7) → (∀ z ∈ s, 1 ≤ z ∧ z ≤ 30) → (∀ p, p < q → r.getD p 0 = headAt t31.1 t72.1 (j : Int) (p : Int)) →
    ∃ r' s', (∀ k, d < k → spec_l10Right.l1 t5 t31 t72 (j : Int) k r s (q : Int) = some (r', s', (D : Int))) ∧ RowG D r' s' ∧ ∀ p, p < D → r'.getD p 0 = headAt t31.1 t72.1 (j : Int) (p : Int) := by
  induction d with
  | zero =>
    intro q r s hq hr hs h1 h2 hv
    refine ⟨r, s, fun k hk => ?_, ⟨by omega, h1, by omega, h2⟩, fun p hp => hv p (by omega)⟩
    obtain ⟨k, rfl⟩ : ∃ m, k = m + 1 := ⟨k - 1, by omega⟩
    unfold spec_l10Right.l1 spec_l10Right.b1
    rw [show _ = _ from ht, if_neg (by omega), show (q : Int) = (D : Int) by omega]
  | succ d ih =>
    intro q r s hq hr hs h1 h2 hv
    have hp := small_prod (j : Int) (q : Int) 300 8 (by omega) (by omega) (by omega) (by omega)
    have hp2 := small_prod (j : Int) (1 + t72.1) 300 40 (by omega) (by omega) (by omega) (by omega)
    obtain ⟨a, ha, a0, a1⟩ : ∃ a, wrap64 ((Int.tmod (wrap64 ((wrap64 ((wrap64 (t31.1 + (wrap64 ((j : Int) * (wrap64 (1 + t72.1)))))) + (wrap64 ((q : Int) * 7)))) + (wrap64 ((j : Int) * (q : Int))))) 16) - 8) = a ∧ -8 ≤ a ∧ a ≤ 7 := by
      refine ⟨_, rfl, ?_⟩
      rw [w64 (i := 1 + t72.1) (by omega) (by omega), w64 (i := (j : Int) * (1 + t72.1)) (by omega) (by omega), w64 (i := (j : Int) * (q : Int)) (by omega) (by omega)]
      generalize (j : Int) * (1 + t72.1) = u at hp2 ⊢
      generalize (j : Int) * (q : Int) = p at hp ⊢
      rw [w64 (i := t31.1 + u) (by omega) (by omega), w64 (i := (q : Int) * 7) (by omega) (by omega), w64 (i := t31.1 + u + (q : Int) * 7) (by omega) (by omega), w64 (i := t31.1 + u + (q : Int) * 7 + p) (by omega) (by omega), Int.tmod_eq_emod_of_nonneg (by omega), w64 (by omega) (by omega)]
      omega
    obtain ⟨c, hc, c0, c1⟩ : ∃ c, wrap64 (1 + (Int.tmod (wrap64 ((wrap64 ((wrap64 ((j : Int) * 3)) + (q : Int))) + t31.1)) 30)) = c ∧ 1 ≤ c ∧ c ≤ 30 := by
      refine ⟨_, rfl, ?_⟩
      rw [w64 (i := (j : Int) * 3) (by omega) (by omega), w64 (i := (j : Int) * 3 + (q : Int)) (by omega) (by omega), w64 (i := (j : Int) * 3 + (q : Int) + t31.1) (by omega) (by omega), Int.tmod_eq_emod_of_nonneg (by omega), w64 (by omega) (by omega)]
      omega
    have hv' : ∀ p, p < q + 1 → (r ++ [a]).getD p 0 = headAt t31.1 t72.1 (j : Int) (p : Int) := fun p hp => by
      by_cases hlt : p < q
      · rw [getD_l r [a] p 0 (by omega)]; exact hv p hlt
      · rw [getD_r r a p 0 (by omega), show p = q by omega]; exact ha.symm
    have h1' : ∀ z ∈ r ++ [a], -8 ≤ z ∧ z ≤ 7 := fun z hz => by
      rcases List.mem_append.1 hz with hz | hz
      · exact h1 z hz
      · rw [List.mem_singleton.1 hz]; exact ⟨a0, a1⟩
    by_cases h4 : q % 4 = 0
    · obtain ⟨r', s', hr', g⟩ := ih (q + 1) (r ++ [a]) (s ++ [c]) (by omega) (by simp; omega) (by simp; omega) h1' (fun z hz => by
        rcases List.mem_append.1 hz with hz | hz
        · exact h2 z hz
        · rw [List.mem_singleton.1 hz]; exact ⟨c0, c1⟩) hv'
      refine ⟨r', s', fun k hk => ?_, g⟩
      obtain ⟨k, rfl⟩ : ∃ m, k = m + 1 := ⟨k - 1, by omega⟩
      unfold spec_l10Right.l1 spec_l10Right.b1
      rw [show _ = _ from ht, if_pos (by omega), if_pos (by omega), if_pos (by rw [Int.tmod_eq_emod_of_nonneg (by omega)]; omega), if_pos (by omega), Option.bind_some, ha, hc, w64 (by omega) (by omega), show ((q : Int) + 1) = ((q + 1 : Nat) : Int) by omega]
      exact hr' k (by omega)
    · obtain ⟨r', s', hr', g⟩ := ih (q + 1) (r ++ [a]) s (by omega) (by simp; omega) (by omega) h1' h2 hv'
      refine ⟨r', s', fun k hk => ?_, g⟩
      obtain ⟨k, rfl⟩ : ∃ m, k = m + 1 := ⟨k - 1, by omega⟩
      unfold spec_l10Right.l1 spec_l10Right.b1
      rw [show _ = _ from ht, if_pos (by omega), if_pos (by omega), if_neg (by rw [Int.tmod_eq_emod_of_nonneg (by omega)]; omega), Option.bind_some, ha, w64 (by omega) (by omega), show ((q : Int) + 1) = ((q + 1 : Nat) : Int) by omega]
      exact hr' k (by omega)
theorem headG (D V : Nat) (hD : D = 4 ∨ D = 8) (hV : V ≤ 300) (t5 t31 t72 : Int × S140) (ht : Hid (wrap64 (4 * wrap64 (1 + t5.1)) = (D : Int))) (s0 : 0 ≤ t31.1) (s1 : t31.1 < 1000) (p0 : 0 ≤ t72.1) (p1 : t72.1 < 40) (d : Nat) : ∀ (j : Nat) (R S : List (List Int)), j + d = V → R.length = j → S.length = j → (∀ q, q < j → RowG D (R.getD q []) (S.getD q [])) → Hid (0 < j → ∃ p, p < D ∧ (R.getD 0 []).getD p 0 ≠ 0) →
    ∃ R' S', (∀ k, d + 20 < k → spec_l10Right.l0 t5 (V : Int) t31 t72 k (j : Int) R S = some ((V : Int), R', S')) ∧ R'.length = V ∧ S'.length = V ∧ (∀ q, q < V → RowG D (R'.getD q []) (S'.getD q [])) ∧ Hid (0 < V → ∃ p, p < D ∧ (R'.getD 0 []).getD p 0 ≠ 0) := by
  induction d with
  | zero =>
    intro j R S hj hR hS h hz
    refine ⟨R, S, fun k hk => ?_, by omega, by omega, fun q hq => h q (by omega), fun h0 => hz.out (by omega)⟩
    obtain ⟨k, rfl⟩ : ∃ m, k = m + 1 := ⟨k - 1, by omega⟩
    unfold spec_l10Right.l0 spec_l10Right.b0
    rw [if_neg (by omega), show (j : Int) = (V : Int) by omega]
  | succ d ih =>
    intro j R S hj hR hS h hz
    obtain ⟨r, s, hr, g, gv⟩ := headRow D hD t5 t31 t72 ht s0 s1 p0 p1 j (by omega) D 0 [] [] (by omega) rfl (by rfl) (fun z hz => by cases hz) (fun z hz => by cases hz) (fun p hp => absurd hp (Nat.not_lt_zero _))
    obtain ⟨R', S', hr', g1, g2, g3⟩ := ih (j + 1) (R ++ [r]) (S ++ [s]) (by omega) (by simp; omega) (by simp; omega) (rows_snoc D R S r s j hR hS h g) (fun _ => by
      by_cases j0 : j = 0
      · subst j0
        rw [getD_r R r 0 [] (by omega)]
        rcases headAt_first t31.1 t72.1 s0 s1 with n | n
        · exact ⟨0, by omega, by rw [gv 0 (by omega)]; exact n⟩
        · exact ⟨1, by omega, by rw [gv 1 (by omega)]; exact n⟩
      · rw [getD_l R [r] 0 [] (by omega)]; exact hz.out (by omega))
    refine ⟨R', S', fun k hk => ?_, g1, g2, g3⟩
    obtain ⟨k, rfl⟩ : ∃ m, k = m + 1 := ⟨k - 1, by omega⟩
    have hr2 := hr k (by omega)
    rw [show ((0 : Nat) : Int) = 0 from rfl] at hr2
    unfold spec_l10Right.l0 spec_l10Right.b0
    rw [if_pos (by omega), hr2, Option.bind_some, if_pos (by omega), if_pos (by omega), w64 (by omega) (by omega), show ((j : Int) + 1) = ((j + 1 : Nat) : Int) by omega]
    exact hr' k (by omega)

theorem turns_good (f : Nat → Nat → Int) (hf : ∀ p k, -128 ≤ f p k ∧ f p k ≤ 128) (n c : Nat) : (rowsOf f n c).all (rowT (n : Int)) = true := by
  rw [List.all_eq_true]
  intro r hr
  obtain ⟨p, _, rfl⟩ := List.mem_map.1 hr
  unfold rowT
  rw [rowOf_len, rowOf_all f hf, decide_eq_true rfl]; rfl
/-- a good drawn model of this width -/
structure GoodM (D : Nat) (m : S39) : Prop where
  dim : D = 4 ∨ D = 8
  f0 : m.f0 = (D : Int)
  ok : modelB m = true
  size : iModel m ≤ 1048576
  lay : ∀ y ∈ m.f5, LayG D y
  lays : 1 ≤ m.f5.length ∧ m.f5.length ≤ 2
  cos : (m.f8.f0.length : Int) = m.f2
  ctx : 4 ≤ m.f2 ∧ m.f2 ≤ 18
  pos : Hid (∃ q, q < m.f7.f1.length ∧ 0 < wst (m.f7.f1.getD q []) (m.f7.f2.getD q []))
theorem good_of (D Hn C P V : Nat) (hD : D = 4 ∨ D = 8) (hH : Hn = 1 ∨ Hn = 2) (hC : 4 ≤ C ∧ C ≤ 18) (hP : Hid (wrap64 (Int.tdiv (wrap64 (Int.tdiv (D : Int) (Hn : Int))) 2) = (P : Int))) (hP1 : 1 ≤ P ∧ P ≤ 4) (ms : List S112) (hms : mergesB ms = true) (hV : V = 256 + ms.length) (R : List (List Int)) (hR : R.length = V) (hR2 : ∀ r ∈ R, rowI (D : Int) r = true)
    (ls : List S48) (hl : 1 ≤ ls.length ∧ ls.length ≤ 2) (hl2 : ∀ y ∈ ls, LayG D y) (g : List Int) (hg : g.length = D) (hg2 : ∀ z ∈ g, 0 ≤ z ∧ z ≤ 127) (HR HS : List (List Int)) (h1 : HR.length = V) (h2 : HS.length = V) (h3 : ∀ q, q < V → RowG D (HR.getD q []) (HS.getD q [])) (h4 : Hid (0 < V → ∃ p, p < D ∧ (HR.getD 0 []).getD p 0 ≠ 0)) :
    GoodM D ⟨(D : Int), (Hn : Int), (C : Int), ms, R, ls, g, ⟨(D : Int), HR, HS, 1, 1⟩, ⟨rowsOf cosAt P C, rowsOf sinAt P C⟩⟩ := by
  have hm := mergesB_len ms hms
  obtain ⟨a, c⟩ := mat_good D V hD (by omega) HR HS 1 1 h1 h2 (by omega) (by omega) (by omega) (by omega) h3
  have hv : Hid (wrap64 (256 + (ms.length : Int)) = (V : Int)) := by show wrap64 (256 + (ms.length : Int)) = (V : Int); rw [w64 (by omega) (by omega)]; omega
  refine ⟨hD, rfl, ?_, ?_, hl2, hl, ?_, ?_, ?_⟩
  · unfold modelB vocabM
    show (widthB (D : Int) && ((decide (1 ≤ (Hn : Int)) && decide ((Hn : Int) ≤ 2)) && (mergesB ms && (decide ((R.length : Int) = wrap64 (256 + (ms.length : Int))) && ((decide (1 ≤ (ls.length : Int)) && decide ((ls.length : Int) ≤ 2)) &&
      (R.all (rowI (D : Int)) && (ls.all (fun y => layerB y (D : Int)) && (gainB g (D : Int) && (mfit ⟨(D : Int), HR, HS, 1, 1⟩ (D : Int) (wrap64 (256 + (ms.length : Int))) && turnsB (rowsOf cosAt P C) (rowsOf sinAt P C) (C : Int) (wrap64 (Int.tdiv (wrap64 (Int.tdiv (D : Int) (Hn : Int))) 2))))))))))) = true
    have w1 : widthB (D : Int) = true := by rcases hD with h | h <;> rw [h] <;> rfl
    have w2 : R.all (rowI (D : Int)) = true := List.all_eq_true.mpr hR2
    have w3 : ls.all (fun y => layerB y (D : Int)) = true := List.all_eq_true.mpr (fun y hy => (hl2 y hy).1)
    have w4 : turnsB (rowsOf cosAt P C) (rowsOf sinAt P C) (C : Int) (P : Int) = true := by
      unfold turnsB
      rw [turns_good cosAt cos_bd, turns_good sinAt sin_bd, rowsOf_len, rowsOf_len, decide_eq_true (show (4 : Int) ≤ (C : Int) by omega), decide_eq_true (show (C : Int) ≤ 24 by omega), decide_eq_true (show (1 : Int) ≤ (P : Int) by omega), decide_eq_true (show (P : Int) ≤ 4 by omega), decide_eq_true rfl]; rfl
    rw [show wrap64 (256 + (ms.length : Int)) = (V : Int) from hv, show wrap64 (Int.tdiv (wrap64 (Int.tdiv (D : Int) (Hn : Int))) 2) = (P : Int) from hP, w1, w2, w3, w4, hms, a, gain_good g D hg hg2, decide_eq_true (show (1 : Int) ≤ (Hn : Int) by omega), decide_eq_true (show (Hn : Int) ≤ 2 by omega), decide_eq_true (show (R.length : Int) = (V : Int) by omega), decide_eq_true (show (1 : Int) ≤ (ls.length : Int) by omega), decide_eq_true (show (ls.length : Int) ≤ 2 by omega)]; rfl
  · show ms.length + (mIntss R + (iLayers ls + (g.length + (iMatrix ⟨(D : Int), HR, HS, 1, 1⟩ + (mIntss (rowsOf cosAt P C) + mIntss (rowsOf sinAt P C)))))) ≤ 1048576
    have s1 := (rowsOf_size cosAt P C (by omega) C).1
    have s2 := (rowsOf_size sinAt P C (by omega) C).1
    have s3 : sumS (fun l : List Int => l.length) R ≤ R.length * 8 := sumS_bd _ 8 R (fun r hr => by
      have := hR2 r hr
      unfold rowI at this
      simp only [Bool.and_eq_true, decide_eq_true_eq] at this
      omega)
    have s4 : sumS iLayer ls ≤ ls.length * 1000 := sumS_bd _ 1000 ls (fun y hy => (hl2 y hy).2.1)
    have e1 := mIntss_eq R
    have e2 : iLayers ls = ls.length + sumS iLayer ls := rfl
    omega
  · show ((rowsOf cosAt P C).length : Int) = (C : Int)
    rw [rowsOf_len]
  · exact ⟨by show (4 : Int) ≤ (C : Int); omega, by show (C : Int) ≤ 18; omega⟩
  · obtain ⟨p, hp, hn⟩ := h4.out (by omega)
    exact ⟨0, by show 0 < HR.length; omega, wst_pos _ _ D hD (h3 0 (by omega)) p hp hn⟩
theorem pairs_of (D Hn : Nat) (hD : D = 4 ∨ D = 8) (hH : Hn = 1 ∨ Hn = 2) : ∃ P : Nat, wrap64 (Int.tdiv (wrap64 (Int.tdiv (D : Int) (Hn : Int))) 2) = (P : Int) ∧ 1 ≤ P ∧ P ≤ 4 := by
  rcases hD with rfl | rfl <;> rcases hH with rfl | rfl
  · exact ⟨2, by decide +kernel, by omega, by omega⟩
  · exact ⟨1, by decide +kernel, by omega, by omega⟩
  · exact ⟨4, by decide +kernel, by omega, by omega⟩
  · exact ⟨2, by decide +kernel, by omega, by omega⟩
theorem rightG (b : List Int) (i h : Int) (hc : Cu b i) : ∃ m i' h' D, (∀ k, 4000 < k → spec_l10Right.g k ⟨b, i, h⟩ = some (m, ⟨b, i', h'⟩)) ∧ GoodM D m ∧ Cu b i' := by
  obtain ⟨v5, i1, h1, e1, v50, v51, hc1⟩ := belowG 0 b i h hc 2 (by omega) (by omega)
  obtain ⟨v8, i2, h2, e2, v80, v81, hc2⟩ := belowG 0 b i1 h1 hc1 2 (by omega) (by omega)
  obtain ⟨v11, i3, h3, e3, v110, v111, hc3⟩ := belowG 0 b i2 h2 hc2 15 (by omega) (by omega)
  obtain ⟨ms, i4, h4, e4, hms, hc4⟩ := mergesG b i3 h3 hc3
  obtain ⟨v31, i5, h5, e5, v310, v311, hc5⟩ := belowG 0 b i4 h4 hc4 1000 (by omega) (by omega)
  obtain ⟨D, hD, hD2⟩ : ∃ D : Nat, wrap64 (4 * wrap64 (1 + v5)) = (D : Int) ∧ (D = 4 ∨ D = 8) := ⟨(4 * (1 + v5)).toNat, by rw [w64 (i := 1 + v5) (by omega) (by omega), w64 (by omega) (by omega)]; omega, by omega⟩
  obtain ⟨Hn, hH, hH2⟩ : ∃ Hn : Nat, wrap64 (1 + v8) = (Hn : Int) ∧ (Hn = 1 ∨ Hn = 2) := ⟨(1 + v8).toNat, by rw [w64 (by omega) (by omega)]; omega, by omega⟩
  obtain ⟨C, hC, hC2⟩ : ∃ C : Nat, wrap64 (4 + v11) = (C : Int) ∧ (4 ≤ C ∧ C ≤ 18) := ⟨(4 + v11).toNat, by rw [w64 (by omega) (by omega)]; omega, by omega⟩
  obtain ⟨P, hP, hP1⟩ := pairs_of D Hn hD2 hH2
  have hm := mergesB_len ms hms
  have hV : ∀ k (y : S39), y.f3 = ms → spec_Vocab.g k y = some (((256 + ms.length : Nat)) : Int) := fun k y hy => by
    show some (wrap64 (256 + (y.f3.length : Int))) = _
    rw [hy, w64 (by omega) (by omega)]
    exact congrArg some (by omega)
  have n0 : (Hn : Int) ≠ 0 := by omega
  have vl : 256 + ms.length ≤ 300 := by omega
  obtain ⟨R, hR, R1, R2⟩ := embG D (256 + ms.length) hD2 vl (v5, ⟨b, i1, h1⟩) (v31, ⟨b, i5, h5⟩) hD v310 v311 (256 + ms.length) 0 [] (Nat.zero_add _) rfl (fun r hr => by cases hr)
  obtain ⟨ls, i6, h6, q6, hls, ls1, ls2, hc6⟩ := layG ⟨b, i, h⟩ D hD2 (v5, ⟨b, i1, h1⟩) hD i5 h5 hc5
  obtain ⟨g, i7, h7, e7, g1, g2, hc7⟩ := gainG b D (by rcases hD2 with rfl | rfl <;> decide) i6 h6 hc6
  obtain ⟨v72, i8, h8, e8, v720, v721, hc8⟩ := belowG 0 b i7 h7 hc7 40 (by decide) (by decide)
  obtain ⟨HR, HS, hHR, H1, H2, H3, H4⟩ := headG D (256 + ms.length) hD2 vl (v5, ⟨b, i1, h1⟩) (v31, ⟨b, i5, h5⟩) (v72, ⟨b, i8, h8⟩) hD v310 v311 v720 v721 (256 + ms.length) 0 [] [] (Nat.zero_add _) rfl rfl (fun q hq => absurd hq (Nat.not_lt_zero _)) (fun h => absurd h (Nat.lt_irrefl _))
  have gd := good_of D Hn C P (256 + ms.length) hD2 hH2 hC2 hP hP1 ms hms rfl R R1 R2 ls ls1 ls2 g g1 g2 HR HS H1 H2 H3 H4
  refine ⟨_, i8, h8, D, fun k hk => ?_, gd, hc8⟩
  have k1 : 2200 < k := Nat.lt_trans (by decide) hk
  have k2 : 256 + ms.length + 20 < k := by clear hR hHR hls e4 e7 hD hH hC hP e1 e2 e3 e5 e8 gd; omega
  have k3 : 345 < k := Nat.lt_trans (by decide) hk
  have k4 : 300 < k := Nat.lt_trans (by decide) hk
  have k5 : D < k := by rcases hD2 with rfl | rfl <;> exact Nat.lt_trans (by decide) hk
  have t := spec_turnsFor P C hP1.1 hP1.2 hC2.1 (Nat.le_trans hC2.2 (by decide)) k k4
  have r3 := hR k k2
  have r0 := hHR k k2
  rw [show ((0 : Nat) : Int) = 0 from rfl] at r3 r0
  unfold spec_l10Right.g
  rw [belowG_k k 0, e1, Option.bind_some, belowG_k k 0, e2, Option.bind_some, belowG_k k 0, e3, Option.bind_some, e4 k k1, Option.bind_some, hV k _ rfl, Option.bind_some, belowG_k k 0, e5, Option.bind_some, r3, Option.bind_some]
  rw [show spec_l10Right.l2 ⟨b, i, h⟩ (v5, ⟨b, i1, h1⟩) k 0 i5 h5 [] = _ from hls k k3, Option.bind_some, hD, e7 k k5, Option.bind_some, belowG_k k 0, e8, Option.bind_some, r0, Option.bind_some, hH, if_pos n0, hC, hP, t, Option.bind_some]

theorem new_from (l : List Int) (hl : l.length ≤ 1048576) (d : Nat) : ∀ (j : Nat) (h : Int), j + d = l.length → ∃ r q, ∀ k, d < k → spec_l01New.l0 l k h (j : Int) = some (r, q) := by
  induction d with
  | zero =>
    intro j h hj
    refine ⟨h, (j : Int), fun k hk => ?_⟩
    obtain ⟨k, rfl⟩ : ∃ m, k = m + 1 := ⟨k - 1, by omega⟩
    unfold spec_l01New.l0 spec_l01New.b0
    rw [if_neg (by omega)]
  | succ d ih =>
    intro j h hj
    by_cases c : (j : Int) < 4000
    · obtain ⟨r, q, e⟩ := ih (j + 1) (Go.bits .and .i64 (wrap64 ((wrap64 ((wrap64 (h * 131)) + (wrap64 ((l.getD (j : Int).toNat 0))))) + 7)) 1073741823) (by omega)
      refine ⟨r, q, fun k hk => ?_⟩
      obtain ⟨k, rfl⟩ : ∃ m, k = m + 1 := ⟨k - 1, by omega⟩
      unfold spec_l01New.l0 spec_l01New.b0
      rw [if_pos (by omega), if_pos c, if_pos (by omega), w64 (i := (j : Int) + 1) (by omega) (by omega), show ((j : Int) + 1) = ((j + 1 : Nat) : Int) by omega]
      exact e k (by omega)
    · refine ⟨h, (j : Int), fun k hk => ?_⟩
      obtain ⟨k, rfl⟩ : ∃ m, k = m + 1 := ⟨k - 1, by omega⟩
      unfold spec_l01New.l0 spec_l01New.b0
      rw [if_pos (by omega), if_neg c]
theorem newG (l : List Int) (hl : l.length ≤ 1048576) : ∃ h, (∀ k, l.length < k → spec_l01New.g k l = some ⟨l, 0, h⟩) ∧ Cu l 0 := by
  obtain ⟨r, q, e⟩ := new_from l hl l.length 0 (wrap64 (11201 + (l.length : Int))) (Nat.zero_add _)
  refine ⟨r, fun k hk => ?_, by omega, by omega, hl⟩
  have e' := e k hk
  rw [show ((0 : Nat) : Int) = 0 from rfl] at e'
  unfold spec_l01New.g
  rw [e', Option.bind_some]
theorem modelB_parts (x : S39) (h : modelB x = true) : widthB x.f0 = true ∧ (1 ≤ x.f1 ∧ x.f1 ≤ 2) ∧ mergesB x.f3 = true ∧ (x.f4.length : Int) = vocabM x ∧ (1 ≤ (x.f5.length : Int) ∧ (x.f5.length : Int) ≤ 2) ∧ (∀ r ∈ x.f4, rowI x.f0 r = true) ∧ (∀ y ∈ x.f5, layerB y x.f0 = true) ∧ gainB x.f6 x.f0 = true ∧ mfit x.f7 x.f0 (vocabM x) = true ∧ turnsB x.f8.f0 x.f8.f1 x.f2 (wrap64 (Int.tdiv (wrap64 (Int.tdiv x.f0 x.f1)) 2)) = true := by
  unfold modelB at h
  simp only [Bool.and_eq_true, decide_eq_true_eq, List.all_eq_true] at h
  exact ⟨h.1, h.2.1, h.2.2.1, h.2.2.2.1, h.2.2.2.2.1, h.2.2.2.2.2.1, h.2.2.2.2.2.2.1, h.2.2.2.2.2.2.2.1, h.2.2.2.2.2.2.2.2.1, h.2.2.2.2.2.2.2.2.2⟩
theorem good_vocab {D : Nat} {m : S39} (g : GoodM D m) : wrap64 (256 + (m.f3.length : Int)) = ((256 + m.f3.length : Nat) : Int) ∧ m.f3.length ≤ 16 := by
  have h := mergesB_len _ (modelB_parts m g.ok).2.2.1
  exact ⟨by rw [w64 (by omega) (by omega)]; omega, h⟩
theorem toks_from (x : S39 × S140) (b : List Int) (D : Nat) (g : GoodM D x.1) (d : Nat) : ∀ (j : Nat) (acc : List Int) (i h : Int), j + d = 6 → acc.length = j → (j : Int) ≤ x.1.f2 → Cu b i → (∀ z ∈ acc, 0 ≤ z ∧ z < ((256 + x.1.f3.length : Nat) : Int)) →
    ∃ r q i' h', (∀ k, d < k → spec_DrawRightModel.l0 b x k acc (j : Int) i h = some (r, q, i', h')) ∧ (1 ≤ r.length ∧ r.length ≤ 6 ∧ (r.length : Int) ≤ x.1.f2) ∧ (∀ z ∈ r, 0 ≤ z ∧ z < ((256 + x.1.f3.length : Nat) : Int)) := by
  obtain ⟨gv, gl⟩ := good_vocab g
  have gc := g.ctx
  induction d with
  | zero =>
    intro j acc i h hj ha hx hc hz
    obtain ⟨v, i1, h1, e, v0, v1, hc1⟩ := belowG 0 b i h hc 6 (by omega) (by omega)
    refine ⟨acc, (j : Int), i1, h1, fun k hk => ?_, by omega, hz⟩
    obtain ⟨k, rfl⟩ : ∃ m, k = m + 1 := ⟨k - 1, by omega⟩
    unfold spec_DrawRightModel.l0 spec_DrawRightModel.b0
    rw [belowG_k k 0, e, Option.bind_some, w64 (i := 1 + v) (by omega) (by omega), if_neg (by omega)]
  | succ d ih =>
    intro j acc i h hj ha hx hc hz
    obtain ⟨v, i1, h1, e, v0, v1, hc1⟩ := belowG 0 b i h hc 6 (by omega) (by omega)
    by_cases c1 : (j : Int) < 1 + v
    · by_cases c2 : (j : Int) < x.1.f2
      · obtain ⟨u, i2, h2, e2, u0, u1, hc2⟩ := belowG 0 b i1 h1 hc1 ((256 + x.1.f3.length : Nat) : Int) (by omega) (by omega)
        obtain ⟨r, q, i', h', hr, r1, r2⟩ := ih (j + 1) (acc ++ [u]) i2 h2 (by omega) (by simp; omega) (by omega) hc2 (fun z hz1 => by
          rcases List.mem_append.1 hz1 with hz1 | hz1
          · exact hz z hz1
          · rw [List.mem_singleton.1 hz1]; exact ⟨u0, u1⟩)
        refine ⟨r, q, i', h', fun k hk => ?_, r1, r2⟩
        obtain ⟨k, rfl⟩ : ∃ m, k = m + 1 := ⟨k - 1, by omega⟩
        have gv' : spec_Vocab.g k x.1 = some ((256 + x.1.f3.length : Nat) : Int) := congrArg some gv
        unfold spec_DrawRightModel.l0 spec_DrawRightModel.b0
        rw [belowG_k k 0, e, Option.bind_some, w64 (i := 1 + v) (by omega) (by omega), if_pos c1, if_pos c2, gv', Option.bind_some, belowG_k k 0, e2, Option.bind_some, if_pos (by omega), w64 (i := (j : Int) + 1) (by omega) (by omega), show ((j : Int) + 1) = ((j + 1 : Nat) : Int) by omega]
        exact hr k (by omega)
      · refine ⟨acc, (j : Int), i1, h1, fun k hk => ?_, by omega, hz⟩
        obtain ⟨k, rfl⟩ : ∃ m, k = m + 1 := ⟨k - 1, by omega⟩
        unfold spec_DrawRightModel.l0 spec_DrawRightModel.b0
        rw [belowG_k k 0, e, Option.bind_some, w64 (i := 1 + v) (by omega) (by omega), if_pos c1, if_neg c2]
    · refine ⟨acc, (j : Int), i1, h1, fun k hk => ?_, by omega, hz⟩
      obtain ⟨k, rfl⟩ : ∃ m, k = m + 1 := ⟨k - 1, by omega⟩
      unfold spec_DrawRightModel.l0 spec_DrawRightModel.b0
      rw [belowG_k k 0, e, Option.bind_some, w64 (i := 1 + v) (by omega) (by omega), if_neg c1]
/-- the drawn model, and the drawn tokens -/
theorem drawnG (l : List Int) (hl : l.length ≤ 1048576) : ∃ m ts D, (∀ k, 1100000 < k → spec_DrawRightModel.g k l = some (m, ts)) ∧ GoodM D m ∧ (1 ≤ ts.length ∧ ts.length ≤ 6 ∧ (ts.length : Int) ≤ m.f2) ∧ (∀ z ∈ ts, 0 ≤ z ∧ z < ((256 + m.f3.length : Nat) : Int)) := by
  obtain ⟨h0, e0, hc0⟩ := newG l hl
  obtain ⟨m, i1, h1, D, e1, g, hc1⟩ := rightG l 0 h0 hc0
  obtain ⟨ts, q, i2, h2, e2, t1, t2⟩ := toks_from (m, ⟨l, i1, h1⟩) l D g 6 0 [] i1 h1 (by omega) rfl (by have := g.ctx; show ((0 : Nat) : Int) ≤ m.f2; omega) hc1 (fun z hz => by cases hz)
  refine ⟨m, ts, D, fun k hk => ?_, g, t1, t2⟩
  have e2' := e2 k (by omega)
  rw [show ((0 : Nat) : Int) = 0 from rfl] at e2'
  unfold spec_DrawRightModel.g
  rw [e0 k (by omega), Option.bind_some, e1 k (by omega), Option.bind_some, e2', Option.bind_some]

theorem max_if (a b : Int) : (if a < b then b else a) = max a b := by rw [Int.max_def]; by_cases c : a < b <;> by_cases e : a ≤ b <;> simp [c, e] <;> omega
theorem fold_max {α : Type} (f : α → Int) : ∀ (l : List α) (a c : Int), l.foldl (fun b i => max b (f i)) (max a c) = max a (l.foldl (fun b i => max b (f i)) c)
  | [], a, c => rfl
  | x :: l, a, c => by rw [List.foldl_cons, List.foldl_cons, Int.max_assoc, fold_max f l]
theorem fold_ge {α : Type} (f : α → Int) : ∀ (l : List α) (c : Int), c ≤ l.foldl (fun b i => max b (f i)) c
  | [], c => Int.le_refl _
  | x :: l, c => Int.le_trans (Int.le_max_left _ _) (fold_ge f l _)
def rowsMax (R S : List (List Int)) (x : Int) (i : Nat) : Int := ((List.range R.length).drop i).foldl (fun b i => max b (wst (R.getD i []) (S.getD i []))) x
theorem rowsMax_end (R S : List (List Int)) (x : Int) : rowsMax R S x R.length = x := by unfold rowsMax; rw [List.drop_of_length_le (by simp)]; rfl
theorem rowsMax_step (R S : List (List Int)) (x : Int) (i : Nat) (h : i < R.length) : rowsMax R S x i = rowsMax R S (max x (wst (R.getD i []) (S.getD i []))) (i + 1) := by
  unfold rowsMax; rw [List.drop_eq_getElem_cons (by simpa using h), List.foldl_cons, List.getElem_range]
theorem spec_max_from (w : Int) (R S : List (List Int)) (m h : Int) (hl : R.length ≤ 300) (hs : S.length = R.length) (hR : ∀ r ∈ R, r.length ≤ 1048576) (hS : ∀ r ∈ S, r.length ≤ 1048576) (d : Nat) : ∀ (k i : Nat) (x : Int), i + d = R.length → d + 2097153 < k →
    spec_l10Worst.l0 k x (i : Int) w R S m h = some (rowsMax R S x i) := by
  induction d with
  | zero =>
    intro k i x hi hk
    obtain ⟨k, rfl⟩ : ∃ m, k = m + 1 := ⟨k - 1, by omega⟩
    obtain rfl : i = R.length := by omega
    rw [spec_l10Worst.l0, if_neg (by omega), rowsMax_end]
  | succ d ih =>
    intro k i x hi hk
    obtain ⟨k, rfl⟩ : ∃ m, k = m + 1 := ⟨k - 1, by omega⟩
    have m1 := hR _ (getD_mem R i (by omega))
    have m2 := hS _ (getD_mem S i (by omega))
    rw [spec_l10Worst.l0, if_pos (by omega), if_pos (by omega), if_pos (by omega), rowsMax_step R S x i (by omega), ← max_if]
    show ((spec_Worst.f k (R.getD (i : Int).toNat []) (S.getD (i : Int).toNat [])).bind _) = _
    rw [Int.toNat_natCast, spec_wst _ _ (by omega) (by omega) k (by omega) (by omega), Option.bind_some, w64 (by omega) (by omega), show ((i : Int) + 1) = ((i + 1 : Nat) : Int) by omega]
    by_cases c : wst (R.getD i []) (S.getD i []) > x
    · rw [if_pos c, if_pos (show x < _ from c), ih k (i + 1) _ (by omega) (by omega)]
    · rw [if_neg c, if_neg (show ¬ x < _ from c), ih k (i + 1) _ (by omega) (by omega)]
def rowMax (m : S36) : Int := rowsMax m.f1 m.f2 0 0
theorem spec_rowMax (m : S36) (h : fineM m) (k : Nat) (hk : 3000000 < k) : spec_l10Worst.f k m.f0 m.f1 m.f2 m.f3 m.f4 = some (rowMax m) := by
  obtain ⟨h1, h2, h3⟩ := mat_rows m h.1
  exact spec_max_from _ _ _ _ _ h.2.1 h.2.2.1 h2 h3 m.f1.length k 0 0 (by omega) (by have := h.2.1; omega)
def budgetOf (l : List S36) : Int := l.foldl (fun b m => max b (rowMax m)) 0
theorem spec_budget_from (x : S39) (hx : iModel x ≤ 1048576) (ms : List S36) (hb : modelB x = true) (hm : ∀ m ∈ ms, fineM m) (hl : ms.length ≤ 100) (d : Nat) : ∀ (k i : Nat) (b : Int), i + d = ms.length → d + 6000000 < k →
    ∃ j, spec_BudgetOf.l0 x ms k b (i : Int) = some ((ms.drop i).foldl (fun b m => max b (rowMax m)) b, j) := by
  induction d with
  | zero =>
    intro k i b hi hk
    obtain ⟨k, rfl⟩ : ∃ m, k = m + 1 := ⟨k - 1, by omega⟩
    unfold spec_BudgetOf.l0 spec_BudgetOf.b0
    rw [if_neg (by omega), List.drop_of_length_le (by omega)]; exact ⟨_, rfl⟩
  | succ d ih =>
    intro k i b hi hk
    obtain ⟨k, rfl⟩ : ∃ m, k = m + 1 := ⟨k - 1, by omega⟩
    have hlt : i < ms.length := by omega
    unfold spec_BudgetOf.l0 spec_BudgetOf.b0
    rw [if_pos (by omega), spec_model x hx k (by omega), Option.bind_some, if_pos hb, if_pos (by omega), getD_int ms _ i hlt, spec_rowMax ms[i] (hm _ (List.getElem_mem hlt)) k (by omega), Option.bind_some, w64 (by omega) (by omega), show ((i : Int) + 1) = ((i + 1 : Nat) : Int) by omega, List.drop_eq_getElem_cons hlt, List.foldl_cons, ← max_if]
    by_cases c : rowMax ms[i] > b
    · rw [if_pos c, if_pos (show b < _ from c), Option.bind_some]; exact ih k (i + 1) _ (by omega) (by omega)
    · rw [if_neg c, if_neg (show ¬ b < _ from c), Option.bind_some]; exact ih k (i + 1) _ (by omega) (by omega)
theorem impl_inner (ms : List S36) (j : Nat) (hj : j < ms.length) (m : S36) (hm : ms[j] = m) (h : fineM m) (d : Nat) : ∀ (k i : Nat) (x : Int), i + d = m.f1.length → d + 20 < k →
    ∃ q, impl_BudgetOf.l1 ms (j : Int) k x (i : Int) = some (rowsMax m.f1 m.f2 x i, q) := by
  obtain ⟨r1, r2, r3⟩ := mat_rows m h.1
  have h3 := h.2.2.1
  have h2 := h.2.1
  induction d with
  | zero =>
    intro k i x hi hk
    obtain ⟨k, rfl⟩ : ∃ m, k = m + 1 := ⟨k - 1, by omega⟩
    obtain rfl : i = m.f1.length := by omega
    unfold impl_BudgetOf.l1 impl_BudgetOf.b1
    rw [getD_int ms _ j hj, hm, if_neg (by omega), rowsMax_end]; exact ⟨_, rfl⟩
  | succ d ih =>
    intro k i x hi hk
    obtain ⟨k, rfl⟩ : ∃ m, k = m + 1 := ⟨k - 1, by omega⟩
    have m1 := r2 _ (getD_mem m.f1 i (by omega))
    unfold impl_BudgetOf.l1 impl_BudgetOf.b1
    rw [getD_int ms _ j hj, hm, if_pos (by omega), if_pos (by omega), if_pos (by omega), Int.toNat_natCast, impl_wst _ _ (by omega) k (by omega), Option.bind_some, max_if, rowsMax_step m.f1 m.f2 x i (by omega), w64 (by omega) (by omega), show ((i : Int) + 1) = ((i + 1 : Nat) : Int) by omega]
    exact ih k (i + 1) _ (by omega) (by omega)
theorem rowsMax_ge (R S : List (List Int)) (x : Int) (hx : 0 ≤ x) : rowsMax R S x 0 = max x (rowsMax R S 0 0) := by
  unfold rowsMax
  have := fold_max (fun i => wst (R.getD i []) (S.getD i [])) ((List.range R.length).drop 0) x 0
  rw [← this, Int.max_eq_left hx]
theorem impl_budget_from (ms : List S36) (hm : ∀ m ∈ ms, fineM m) (hl : ms.length ≤ 100) (d : Nat) : ∀ (k i : Nat) (b : Int), i + d = ms.length → d + 6000000 < k → 0 ≤ b →
    ∃ j, impl_BudgetOf.l0 ms k b (i : Int) = some ((ms.drop i).foldl (fun b m => max b (rowMax m)) b, j) := by
  induction d with
  | zero =>
    intro k i b hi hk h0
    obtain ⟨k, rfl⟩ : ∃ m, k = m + 1 := ⟨k - 1, by omega⟩
    unfold impl_BudgetOf.l0 impl_BudgetOf.b0
    rw [if_neg (by omega), List.drop_of_length_le (by omega)]; exact ⟨_, rfl⟩
  | succ d ih =>
    intro k i b hi hk h0
    obtain ⟨k, rfl⟩ : ∃ m, k = m + 1 := ⟨k - 1, by omega⟩
    have hlt : i < ms.length := by omega
    have hf := hm _ (List.getElem_mem hlt)
    obtain ⟨q, e⟩ := impl_inner ms i hlt ms[i] rfl hf ms[i].f1.length k 0 b (by omega) (by have := hf.2.1; omega)
    unfold impl_BudgetOf.l0 impl_BudgetOf.b0
    rw [if_pos (by omega), if_pos (by omega), show (0 : Int) = ((0 : Nat) : Int) from rfl, e, Option.bind_some, w64 (by omega) (by omega), show ((i : Int) + 1) = ((i + 1 : Nat) : Int) by omega, List.drop_eq_getElem_cons hlt, List.foldl_cons, rowsMax_ge _ _ b h0]
    exact ih k (i + 1) _ (by omega) (by omega) (Int.le_trans h0 (Int.le_max_left _ _))
def budgetM (x : S39) : Int := if modelB x = true then budgetOf (matsOf x) else 0
theorem spec_budget (x : S39) (hx : iModel x ≤ 1048576) (k : Nat) (hk : 7000000 < k) : spec_BudgetOf.g k x = some (budgetM x) := by
  obtain ⟨s3, s4, s5, s5', s6, s7⟩ := model_size x hx
  unfold spec_BudgetOf.g budgetM
  rw [spec_mats x s5 k (by omega), Option.bind_some]
  by_cases c : modelB x = true
  · obtain ⟨f1, f2, f3⟩ := fine_mats x c hx
    obtain ⟨j, e⟩ := spec_budget_from x hx (matsOf x) c f1 (by rw [mats_len]; omega) (matsOf x).length k 0 0 (by omega) (by rw [mats_len]; omega)
    have e2 : spec_BudgetOf.l0 x (matsOf x) k 0 0 = _ := e
    rw [if_pos c, e2, Option.bind_some, List.drop_zero]; rfl
  · obtain ⟨k, rfl⟩ : ∃ m, k = m + 1 := ⟨k - 1, by omega⟩
    rw [if_neg c]
    unfold spec_BudgetOf.l0 spec_BudgetOf.b0
    rw [if_pos (by rw [mats_len]; omega), spec_model x hx k (by omega), Option.bind_some, if_neg c]; rfl
theorem impl_budget (x : S39) (hx : iModel x ≤ 1048576) (k : Nat) (hk : 7000000 < k) : impl_BudgetOf.g k x = some (budgetM x) := by
  obtain ⟨s3, s4, s5, s5', s6, s7⟩ := model_size x hx
  unfold impl_BudgetOf.g budgetM
  rw [impl_model x hx k (by omega), Option.bind_some]
  by_cases c : modelB x = true
  · obtain ⟨f1, f2, f3⟩ := fine_mats x c hx
    obtain ⟨j, e⟩ := impl_budget_from (matsOf x) f1 (by rw [mats_len]; omega) (matsOf x).length k 0 0 (by omega) (by rw [mats_len]; omega) (by omega)
    have e2 : impl_BudgetOf.l0 (matsOf x) k 0 0 = _ := e
    rw [if_pos c, if_pos c, impl_mats x s5 k (by omega), Option.bind_some, e2, Option.bind_some, List.drop_zero]; rfl
  · rw [if_neg c, if_neg c]

theorem fold_le {α : Type} (f : α → Int) (M : Int) : ∀ (l : List α) (c : Int), c ≤ M → (∀ x ∈ l, f x ≤ M) → l.foldl (fun b i => max b (f i)) c ≤ M
  | [], c, h, _ => h
  | x :: l, c, h, hx => by
    rw [List.foldl_cons]
    exact fold_le f M l _ (Int.max_le.mpr ⟨h, hx x (List.mem_cons_self ..)⟩) (fun y hy => hx y (List.mem_cons_of_mem _ hy))
theorem fold_mem {α : Type} (f : α → Int) : ∀ (l : List α) (c : Int) (x : α), x ∈ l → f x ≤ l.foldl (fun b i => max b (f i)) c
  | [], c, x, h => by cases h
  | y :: l, c, x, h => by
    rw [List.foldl_cons]
    rcases List.mem_cons.1 h with rfl | h
    · exact Int.le_trans (Int.le_max_right _ _) (fold_ge f l _)
    · exact fold_mem f l _ x h
theorem rowMax_le (m : S36) (a b : Int) (h : mfit m a b = true) : rowMax m ≤ 600000 := by
  unfold mfit fitB lowB at h
  simp only [Bool.and_eq_true, decide_eq_true_eq, List.all_eq_true] at h
  unfold rowMax rowsMax
  exact fold_le _ 600000 _ 0 (by decide) h.2.2.2
theorem mats_fit (x : S39) (h : modelB x = true) : ∀ m ∈ matsOf x, ∃ a b, mfit m a b = true := by
  have pts := modelB_parts x h
  intro m hm
  unfold matsOf at hm
  rcases List.mem_append.1 hm with hm | hm
  · obtain ⟨l, hl, hm⟩ := List.mem_flatten.1 hm
    obtain ⟨y, hy, rfl⟩ := List.mem_map.1 hl
    have hb := pts.2.2.2.2.2.2.1 y hy
    unfold layerB at hb
    simp only [Bool.and_eq_true] at hb
    obtain ⟨_, _, _, q, k, v, o, u, d⟩ := hb
    unfold six at hm
    simp only [List.mem_cons, List.not_mem_nil, or_false] at hm
    rcases hm with rfl | rfl | rfl | rfl | rfl | rfl
    · exact ⟨_, _, q⟩
    · exact ⟨_, _, k⟩
    · exact ⟨_, _, v⟩
    · exact ⟨_, _, o⟩
    · exact ⟨_, _, u⟩
    · exact ⟨_, _, d⟩
  · rw [List.mem_singleton.1 hm]; exact ⟨_, _, pts.2.2.2.2.2.2.2.2.1⟩
theorem law_most (m : S39) (ts : List Int) (hf : fineM m.f7) (d : Nat) : ∀ (j : Nat) (n : Int), j + d = m.f7.f1.length → ∃ q, ∀ k, d + 2200000 < k → laws_FnBudget.l0 (m, ts) k n (j : Int) = some (rowsMax m.f7.f1 m.f7.f2 n j, q) := by
  obtain ⟨r1, r2, r3, r4⟩ := hf
  obtain ⟨z1, z2, z3⟩ := mat_rows m.f7 r1
  induction d with
  | zero =>
    intro j n hj
    refine ⟨(j : Int), fun k hk => ?_⟩
    obtain ⟨k, rfl⟩ : ∃ m, k = m + 1 := ⟨k - 1, by omega⟩
    obtain rfl : j = m.f7.f1.length := by omega
    unfold laws_FnBudget.l0 laws_FnBudget.b0
    rw [if_neg (by show ¬ (m.f7.f1.length : Int) < (m.f7.f1.length : Int); omega), rowsMax_end]
  | succ d ih =>
    intro j n hj
    obtain ⟨q, hq⟩ := ih (j + 1) (max n (wst (m.f7.f1.getD j []) (m.f7.f2.getD j []))) (by omega)
    refine ⟨q, fun k hk => ?_⟩
    obtain ⟨k, rfl⟩ : ∃ m, k = m + 1 := ⟨k - 1, by omega⟩
    have m1 := z2 _ (getD_mem m.f7.f1 j (by omega))
    have m2 := z3 _ (getD_mem m.f7.f2 j (by omega))
    unfold laws_FnBudget.l0 laws_FnBudget.b0
    rw [if_pos (by show (j : Int) < (m.f7.f1.length : Int); omega), if_pos (by show 0 ≤ (j : Int) ∧ (j : Int) < (m.f7.f1.length : Int); omega), if_pos (by show 0 ≤ (j : Int) ∧ (j : Int) < (m.f7.f2.length : Int); omega)]
    show (((spec_Worst.f k (m.f7.f1.getD (j : Int).toNat []) (m.f7.f2.getD (j : Int).toNat [])).bind fun t82 => if t82 > n then some t82 else some n).bind _) = _
    rw [Int.toNat_natCast, spec_wst _ _ (by omega) (by omega) k (by omega) (by omega), Option.bind_some, rowsMax_step m.f7.f1 m.f7.f2 n j (by omega)]
    have e : (if wst (m.f7.f1.getD j []) (m.f7.f2.getD j []) > n then some (wst (m.f7.f1.getD j []) (m.f7.f2.getD j [])) else some n) = some (max n (wst (m.f7.f1.getD j []) (m.f7.f2.getD j []))) := by
      by_cases c : wst (m.f7.f1.getD j []) (m.f7.f2.getD j []) > n
      · rw [if_pos c, Int.max_eq_right (by omega)]
      · rw [if_neg c, Int.max_eq_left (by omega)]
    rw [e, Option.bind_some, w64 (i := (j : Int) + 1) (by omega) (by omega), show ((j : Int) + 1) = ((j + 1 : Nat) : Int) by omega]
    exact hq k (by omega)
theorem FnBudget : laws_FnBudget.Pure := by
  intro l ok
  refine ⟨9000000, ?_⟩
  unfold laws_FnBudget.g laws_big.f
  rw [Option.bind_some]
  by_cases hb : (l.length : Int) > 1048576
  · rw [if_pos (decide_eq_true hb)]
  · rw [if_neg (by simpa using hb)]
    obtain ⟨m, ts, D, e, g, _, _⟩ := drawnG l (by omega)
    have hm : m.f7 ∈ matsOf m := by unfold matsOf; exact List.mem_append_right _ (List.mem_singleton.2 rfl)
    have hf := (fine_mats m g.ok g.size).1 m.f7 hm
    obtain ⟨q, hq⟩ := law_most m ts hf m.f7.f1.length 0 0 (Nat.zero_add _)
    have hlen := hf.2.1
    have hq' := hq 9000000 (by omega)
    rw [show ((0 : Nat) : Int) = 0 from rfl] at hq'
    have b1 : rowMax m.f7 ≤ budgetM m := by
      unfold budgetM budgetOf
      rw [if_pos g.ok]
      exact fold_mem rowMax (matsOf m) 0 m.f7 hm
    have b2 : budgetM m ≤ 600000 := by
      unfold budgetM budgetOf
      rw [if_pos g.ok]
      exact fold_le rowMax 600000 (matsOf m) 0 (by decide) (fun x hx => by obtain ⟨a, b, h⟩ := mats_fit m g.ok x hx; exact rowMax_le x a b h)
    have b3 : 0 < rowMax m.f7 := by
      obtain ⟨p, hp, hw⟩ := g.pos.out
      refine Int.lt_of_lt_of_le hw ?_
      unfold rowMax rowsMax
      exact fold_mem (fun i => wst (m.f7.f1.getD i []) (m.f7.f2.getD i [])) _ 0 p (by rw [List.drop_zero]; exact List.mem_range.2 hp)
    rw [e _ (by omega), Option.bind_some]
    show ((impl_BudgetOf.g 9000000 m).bind _) = _
    rw [impl_budget m g.size _ (by omega), Option.bind_some, hq', Option.bind_some]
    show ((spec_BudgetOf.g 9000000 m).bind _) = _
    rw [spec_budget m g.size _ (by omega), Option.bind_some, if_pos rfl, if_pos (show budgetM m ≥ rowsMax m.f7.f1 m.f7.f2 0 0 from b1), if_pos b2]
    exact congrArg some (decide_eq_true (by omega))

end Go.Proofs.Ytacbkcofcbglhaa.Pure
