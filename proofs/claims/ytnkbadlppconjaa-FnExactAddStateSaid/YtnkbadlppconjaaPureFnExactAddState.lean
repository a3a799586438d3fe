/- The program's AddState returns what the reference's AddState returns, leaves its arguments alone, and shares no memory, for all arguments. No conditions. -/
import Derived.Test.YtnkbadlppconjaaPFnExactAddStatex3
namespace Go.Proofs.Ytnkbadlppconjaa.Pure
open Go.RowKit Go.Proofs.Ytnkbadlppconjaa.PFnExactAddState Go.Proofs.YtnkbadlppconjaaW.PrintWords Go.Proofs.YtnkbadlppconjaaW.PrintLast Go.Proofs.YtnkbadlppconjaaW.PrintMore
set_option linter.unusedVariables false
set_option linter.unusedSimpArgs false

theorem w64 {i : Int} (h0 : -9223372036854775808 ≤ i) (h : i ≤ 9223372036854775807) : wrap64 i = i := by unfold wrap64; omega
theorem rd_get (l : List Int) (i : Nat) (h : i < l.length) : rd l (i : Int) = l[i] := by simp [rd, List.getD_eq_getElem?_getD, h]


theorem to_from (l : List Int) (hl : l.length ≤ 9223372036854775806) (d : Nat) : ∀ (k i : Nat), i ≤ l.length → l.length - i = d → d < k →
    laws_toIntS.l0 k l (l.take i ++ List.replicate (l.length - i) 0) (i : Int) = some l := by
  induction d with
  | zero =>
    intro k i hi' hd hk
    obtain ⟨k, rfl⟩ : ∃ m, k = m + 1 := ⟨k - 1, by omega⟩
    simp only [laws_toIntS.l0]; rw [if_neg (by omega), List.take_of_length_le (by omega), hd]; simp
  | succ d ih =>
    intro k i hi' hd hk
    obtain ⟨k, rfl⟩ : ∃ m, k = m + 1 := ⟨k - 1, by omega⟩
    have hlt : i < l.length := by omega
    simp only [laws_toIntS.l0]
    rw [if_pos (by omega), if_pos (by omega), if_pos (by simp; omega), rd_get l i hlt, w64 (by omega) (by omega), show ((i : Int) + 1) = ((i + 1 : Nat) : Int) by omega]
    have e : (l.take i ++ List.replicate (l.length - i) (0 : Int)).set (i : Int).toNat l[i] = l.take (i + 1) ++ List.replicate (l.length - (i + 1)) 0 := by
      rw [Int.toNat_natCast, List.set_append_right _ _ (by simp; omega), show l.length - i = (l.length - (i + 1)) + 1 by omega, List.replicate_succ, List.length_take, Nat.min_eq_left (by omega), Nat.sub_self, List.set_cons_zero, List.take_succ_eq_append_getElem hlt, List.append_assoc]
      rfl
    rw [e]
    exact ih k (i + 1) (by omega) (by omega) (by omega)
/-- laws.toIntS: a copy. -/
theorem to_tells (l : List Int) (hl : l.length ≤ 35184372088832) (k : Nat) (hk : l.length < k) : laws_toIntS.f k l = some l := by
  unfold laws_toIntS.f
  rw [if_pos (by omega), if_pos (by simpa using hl), Int.toNat_natCast]
  have := to_from l (by omega) l.length k 0 (by omega) (by omega) hk
  simpa using this


theorem eq_from (a b : List Int) (hl : a.length ≤ 9223372036854775806) (hab : a.length = b.length) (d : Nat) : ∀ (k i : Nat), i ≤ a.length → a.length - i = d → d < k →
    laws_eqIntS.l0 k a b (i : Int) = some (decide (a.drop i = b.drop i)) := by
  induction d with
  | zero =>
    intro k i hi' hd hk
    obtain ⟨k, rfl⟩ : ∃ m, k = m + 1 := ⟨k - 1, by omega⟩
    rw [List.drop_of_length_le (by omega), List.drop_of_length_le (by omega)]
    simp only [laws_eqIntS.l0]; rw [if_neg (by omega)]; simp
  | succ d ih =>
    intro k i hi' hd hk
    obtain ⟨k, rfl⟩ : ∃ m, k = m + 1 := ⟨k - 1, by omega⟩
    have hlt : i < a.length := by omega
    have hltb : i < b.length := by omega
    simp only [laws_eqIntS.l0]
    rw [if_pos (by omega), if_pos (by omega), if_pos (by omega), rd_get a i hlt, rd_get b i hltb, List.drop_eq_getElem_cons hlt, List.drop_eq_getElem_cons hltb]
    by_cases h : a[i] = b[i]
    · rw [if_pos h, w64 (by omega) (by omega), show ((i : Int) + 1) = ((i + 1 : Nat) : Int) by omega, ih k (i + 1) (by omega) (by omega) (by omega)]
      congr 1
      rw [decide_eq_decide]
      simp only [h, List.cons.injEq, true_and]
    · rw [if_neg h, decide_eq_false (fun e => h (List.cons.inj e).1)]
/-- laws.eqIntS: equal lists. -/
theorem eq_tells (a b : List Int) (hl : a.length ≤ 9223372036854775806) (k : Nat) (hk : a.length < k) : laws_eqIntS.f k a b = some (decide (a = b)) := by
  unfold laws_eqIntS.f
  by_cases h : a.length = b.length
  · rw [if_pos (by omega)]
    have := eq_from a b hl h a.length k 0 (by omega) (by omega) hk
    simpa using this
  · rw [if_neg (by omega), decide_eq_false]
    intro e; rw [e] at h; exact h rfl


def marks (z : Int) (n : Nat) : List Int := (List.range n).map fun (j : Nat) => z + (j : Int)
theorem marks_length (z : Int) (n : Nat) : (marks z n).length = n := by simp [marks]

theorem mark_from (n : Nat) (z : Int) (hz : 0 ≤ z) (hn : z + (n : Int) ≤ 9223372036854775806) (l : List Int) (hl : l.length = n) (d : Nat) : ∀ (k i : Nat), i ≤ n → n - i = d → d < k →
    laws_markIntS.l0 k (marks z i ++ l.drop i) (z + (i : Int)) (i : Int) = some (z + (n : Int), marks z n) := by
  induction d with
  | zero =>
    intro k i hi' hd hk
    obtain ⟨k, rfl⟩ : ∃ m, k = m + 1 := ⟨k - 1, by omega⟩
    obtain rfl : i = n := by omega
    simp only [laws_markIntS.l0]; rw [List.drop_of_length_le (by omega), List.append_nil, if_neg (by rw [marks_length]; omega)]
  | succ d ih =>
    intro k i hi' hd hk
    obtain ⟨k, rfl⟩ : ∃ m, k = m + 1 := ⟨k - 1, by omega⟩
    simp only [laws_markIntS.l0]
    rw [if_pos (by simp [marks_length]; omega), if_pos (by omega), w64 (i := z + (i : Int) + 1) (by omega) (by omega), w64 (i := (i : Int) + 1) (by omega) (by omega), show (z + (i : Int) + 1) = z + ((i + 1 : Nat) : Int) by omega, show ((i : Int) + 1) = ((i + 1 : Nat) : Int) by omega]
    have e : (marks z i ++ l.drop i).set (i : Int).toNat (z + (i : Int)) = marks z (i + 1) ++ l.drop (i + 1) := by
      rw [Int.toNat_natCast, List.set_append_right _ _ (by simp [marks_length]), marks_length, Nat.sub_self, List.drop_eq_getElem_cons (by omega), List.set_cons_zero]
      simp [marks, List.range_succ]
    rw [e]
    exact ih k (i + 1) (by omega) (by omega) (by omega)
/-- laws.markIntS: the numbers from z on. -/
theorem mark_tells (l : List Int) (z : Int) (hz : 0 ≤ z) (hn : z + (l.length : Int) ≤ 9223372036854775806) (k : Nat) (hk : l.length < k) : laws_markIntS.f k l z = some (z + (l.length : Int), marks z l.length) := by
  unfold laws_markIntS.f
  have := mark_from l.length z hz hn l rfl l.length k 0 (by omega) (by omega) hk
  simpa [marks] using this

theorem held_from (n : Nat) (z : Int) (hz : 0 ≤ z) (hn : z + (n : Int) ≤ 9223372036854775806) (d : Nat) : ∀ (k i : Nat), i ≤ n → n - i = d → d < k →
    laws_heldIntS.l0 k (marks z n) (z + (i : Int)) (i : Int) = some (z + (n : Int)) := by
  induction d with
  | zero =>
    intro k i hi' hd hk
    obtain ⟨k, rfl⟩ : ∃ m, k = m + 1 := ⟨k - 1, by omega⟩
    obtain rfl : i = n := by omega
    simp only [laws_heldIntS.l0]; rw [if_neg (by rw [marks_length]; omega)]
  | succ d ih =>
    intro k i hi' hd hk
    obtain ⟨k, rfl⟩ : ∃ m, k = m + 1 := ⟨k - 1, by omega⟩
    simp only [laws_heldIntS.l0]
    rw [if_pos (by rw [marks_length]; omega), if_pos (by omega), rd_get _ i (by rw [marks_length]; omega), if_pos (by simp [marks]), w64 (i := z + (i : Int) + 1) (by omega) (by omega), w64 (i := (i : Int) + 1) (by omega) (by omega), show (z + (i : Int) + 1) = z + ((i + 1 : Nat) : Int) by omega, show ((i : Int) + 1) = ((i + 1 : Nat) : Int) by omega]
    exact ih k (i + 1) (by omega) (by omega) (by omega)
/-- laws.heldIntS of what laws.markIntS left. -/
theorem held_tells (n : Nat) (z : Int) (hz : 0 ≤ z) (hn : z + (n : Int) ≤ 9223372036854775806) (k : Nat) (hk : n < k) : laws_heldIntS.f k (marks z n) z = some (z + (n : Int)) := by
  unfold laws_heldIntS.f
  have := held_from n z hz hn n k 0 (by omega) (by omega) hk
  simpa using this

theorem all_from (lo hi : Int) (l : List Int) (hl : l.length ≤ 9223372036854775806) (d : Nat) : ∀ (k i : Nat), i ≤ l.length → l.length - i = d → d < k →
    spec_l05All.l0 k l lo hi (i : Int) = some ((l.drop i).all fun x => decide (lo ≤ x) && decide (x ≤ hi)) := by
  induction d with
  | zero =>
    intro k i hi' hd hk
    obtain ⟨k, rfl⟩ : ∃ m, k = m + 1 := ⟨k - 1, by omega⟩
    rw [List.drop_of_length_le (by omega)]
    simp only [spec_l05All.l0]; rw [if_neg (by omega)]; rfl
  | succ d ih =>
    intro k i hi' hd hk
    obtain ⟨k, rfl⟩ : ∃ m, k = m + 1 := ⟨k - 1, by omega⟩
    have hlt : i < l.length := by omega
    simp only [spec_l05All.l0]
    rw [if_pos (by omega), if_pos (by omega), rd_get l i hlt, List.drop_eq_getElem_cons hlt, List.all_cons]
    unfold spec_l01In.f
    by_cases h1 : l[i] ≥ lo
    · rw [if_pos h1]
      simp only [Option.bind_some]
      by_cases h2 : l[i] ≤ hi
      · rw [decide_eq_true h2, if_pos rfl, w64 (by omega) (by omega), show ((i : Int) + 1) = ((i + 1 : Nat) : Int) by omega, ih k (i + 1) (by omega) (by omega) (by omega)]
        simp [h1]
      · rw [decide_eq_false h2]; simp
    · rw [if_neg h1]; simp only [Option.bind_some]; rw [decide_eq_false h1]; simp
/-- spec.l05All: all within. -/
theorem all_tells (lo hi : Int) (l : List Int) (hl : l.length ≤ 9223372036854775806) (k : Nat) (hk : l.length < k) : spec_l05All.f k l lo hi = some (l.all fun x => decide (lo ≤ x) && decide (x ≤ hi)) := by
  unfold spec_l05All.f
  have := all_from lo hi l hl l.length k 0 (by omega) (by omega) hk
  rw [List.drop_zero] at this
  exact this


def clampZ (x m : Int) : Int := if x > m then m else if x < -m then -m else x
theorem spec_clamp (x m : Int) (h : 0 ≤ m) (h2 : m ≤ 1000000000) : spec_l03Clamp.f x m = some (clampZ x m) := by
  unfold spec_l03Clamp.f clampZ
  rw [w64 (by omega) (by omega)]
  split
  · rfl
  · split <;> rfl
theorem impl_clamp (x m : Int) (h : 0 ≤ m) (h2 : m ≤ 1000000000) : impl_Clamp.f x m = some (clampZ x m) := by
  unfold impl_Clamp.f clampZ mx mn
  rw [if_neg (by omega), w64 (by omega) (by omega)]
  congr 1
  repeat' split
  all_goals omega

theorem add_from (x0 x1 : List Int) (hab : x0.length = x1.length) (hl : x0.length ≤ 1048576) (d : Nat) : ∀ (k i : Nat) (acc : List Int), i + d = x0.length → acc.length = i → d < k →
    ∃ r : List Int, r.length = x0.length ∧ (∀ k', d < k' → spec_AddState.l0 k' x0 x1 acc (i : Int) = some (r, true)) ∧ impl_AddState.l0 k x1 acc x0 (x0.length : Int) (i : Int) = some (r, true) := by
  induction d with
  | zero =>
    intro k i acc h ha hk
    obtain ⟨k, rfl⟩ : ∃ m, k = m + 1 := ⟨k - 1, by omega⟩
    refine ⟨acc, by omega, fun k' hk' => ?_, ?_⟩
    · obtain ⟨k', rfl⟩ : ∃ m, k' = m + 1 := ⟨k' - 1, by omega⟩
      simp only [spec_AddState.l0]; rw [if_neg (by omega)]
    · simp only [impl_AddState.l0]; rw [if_neg (by omega)]
  | succ d ih =>
    intro k i acc h ha hk
    obtain ⟨k, rfl⟩ : ∃ m, k = m + 1 := ⟨k - 1, by omega⟩
    obtain ⟨r, hr, h1, h2⟩ := ih k (i + 1) (acc ++ [clampZ (wrap64 (rd x0 (i : Int) + rd x1 (i : Int))) 500]) (by omega) (by simp; omega) (by omega)
    refine ⟨r, hr, fun k' hk' => ?_, ?_⟩
    · obtain ⟨k', rfl⟩ : ∃ m, k' = m + 1 := ⟨k' - 1, by omega⟩
      simp only [spec_AddState.l0]
      rw [if_pos (by omega), if_pos (by omega), if_pos (by omega), spec_clamp _ 500 (by omega) (by omega)]
      simp only [Option.bind_some]
      rw [if_pos (by omega), w64 (i := (i : Int) + 1) (by omega) (by omega), show ((i : Int) + 1) = ((i + 1 : Nat) : Int) by omega]
      exact h1 k' (by omega)
    · simp only [impl_AddState.l0]
      rw [if_pos (by omega), if_pos (by omega), if_pos (by omega), if_pos (by omega), impl_clamp _ 500 (by omega) (by omega)]
      simp only [Option.bind_some]
      rw [if_pos (by omega), w64 (i := (i : Int) + 1) (by omega) (by omega), show ((i : Int) + 1) = ((i + 1 : Nat) : Int) by omega]
      exact h2
theorem add_both (x0 x1 : List Int) (hl : x0.length ≤ 1048576) (hl' : x1.length ≤ 1048576) :
    ∃ C : List Int × Bool, C.1.length ≤ x0.length ∧ (∀ k, x0.length + x1.length + 5 < k → spec_AddState.f k x0 x1 = some C) ∧ (∀ k, x0.length + x1.length + 5 < k → impl_AddState.f k x0 x1 = some C) := by
  by_cases hab : x0.length = x1.length
  · by_cases h8 : (x0.length : Int) > 8
    · refine ⟨([], false), by simp, fun k hk => ?_, fun k hk => ?_⟩
      · obtain ⟨k, rfl⟩ : ∃ m, k = m + 1 := ⟨k - 1, by omega⟩
        unfold spec_AddState.f; simp only [Option.bind_some]; rw [if_pos (by omega), if_pos h8]; simp [spec_AddState.j0]
      · obtain ⟨k, rfl⟩ : ∃ m, k = m + 1 := ⟨k - 1, by omega⟩
        unfold impl_AddState.f; rw [if_pos (by omega), if_pos h8]; simp [impl_AddState.j0]
    · obtain ⟨r, hr, h1, h2⟩ := add_from x0 x1 hab hl x0.length (x0.length + 1) 0 [] (by omega) rfl (by omega)
      have h2' : ∀ k, x0.length < k → impl_AddState.l0 k x1 [] x0 (x0.length : Int) 0 = some (r, true) := fun k hk => by
        obtain ⟨r', _, h3, h4⟩ := add_from x0 x1 hab hl x0.length k 0 [] (by omega) rfl hk
        have := (h1 (x0.length + 1) (by omega)).symm.trans (h3 (x0.length + 1) (by omega))
        simp only [Option.some.injEq, Prod.mk.injEq, and_true] at this
        subst this; exact h4
      by_cases hA : ((x0.all fun x => decide (-1000 ≤ x) && decide (x ≤ 1000)) && (x1.all fun x => decide (-1000 ≤ x) && decide (x ≤ 1000))) = true
      · obtain ⟨a1, a2⟩ := (Bool.and_eq_true _ _).mp hA
        refine ⟨(r, true), by show r.length ≤ _; omega, fun k hk => ?_, fun k hk => ?_⟩
        · obtain ⟨k, rfl⟩ : ∃ m, k = m + 1 := ⟨k - 1, by omega⟩
          unfold spec_AddState.f; simp only [Option.bind_some]
          rw [if_pos (by omega), if_neg h8, all_tells _ _ x0 (by omega) _ (by omega), a1, all_tells _ _ x1 (by omega) _ (by omega), a2]
          simp only [Option.bind_some, if_true, Bool.not_true, spec_AddState.j0, Bool.false_eq_true, if_false]
          exact h1 k (by omega)
        · obtain ⟨k, rfl⟩ : ∃ m, k = m + 1 := ⟨k - 1, by omega⟩
          unfold impl_AddState.f impl_allIn.f
          rw [if_pos (by omega), if_neg h8, a1, a2]
          simp only [Option.bind_some, if_true, Bool.not_true, impl_AddState.j0, Bool.false_eq_true, if_false]
          exact h2' k (by omega)
      · refine ⟨([], false), by simp, fun k hk => ?_, fun k hk => ?_⟩
        · obtain ⟨k, rfl⟩ : ∃ m, k = m + 1 := ⟨k - 1, by omega⟩
          unfold spec_AddState.f; simp only [Option.bind_some]
          rw [if_pos (by omega), if_neg h8, all_tells _ _ x0 (by omega) _ (by omega), all_tells _ _ x1 (by omega) _ (by omega)]
          simp only [Option.bind_some]
          cases a1 : x0.all fun x => decide (-1000 ≤ x) && decide (x ≤ 1000) with
          | false => simp [spec_AddState.j0]
          | true =>
            cases a2 : x1.all fun x => decide (-1000 ≤ x) && decide (x ≤ 1000) with
            | false => simp [spec_AddState.j0]
            | true => exact absurd (by rw [a1, a2]; rfl) hA
        · obtain ⟨k, rfl⟩ : ∃ m, k = m + 1 := ⟨k - 1, by omega⟩
          unfold impl_AddState.f impl_allIn.f
          rw [if_pos (by omega), if_neg h8]
          simp only [Option.bind_some]
          cases a1 : x0.all fun x => decide (-1000 ≤ x) && decide (x ≤ 1000) with
          | false => simp [impl_AddState.j0]
          | true =>
            cases a2 : x1.all fun x => decide (-1000 ≤ x) && decide (x ≤ 1000) with
            | false => simp [impl_AddState.j0]
            | true => exact absurd (by rw [a1, a2]; rfl) hA
  · refine ⟨([], false), by simp, fun k hk => ?_, fun k hk => ?_⟩
    · obtain ⟨k, rfl⟩ : ∃ m, k = m + 1 := ⟨k - 1, by omega⟩
      unfold spec_AddState.f; simp only [Option.bind_some]; rw [if_neg (by omega)]; simp [spec_AddState.j0]
    · obtain ⟨k, rfl⟩ : ∃ m, k = m + 1 := ⟨k - 1, by omega⟩
      unfold impl_AddState.f; rw [if_neg (by omega)]; simp [impl_AddState.j0]

theorem FnExactAddState : laws_FnExactAddState.Pure := by
  intro l l' hm hs hw hm' hs' hw'
  refine ⟨l.length + l'.length + 50, ?_⟩
  unfold laws_FnExactAddState.f
  by_cases hb : (l.length : Int) > 1048576
  · rw [if_pos hb]
  · by_cases hb' : (l'.length : Int) > 1048576
    · rw [if_neg hb, if_pos hb']
    · rw [if_neg hb, if_neg hb']
      obtain ⟨C, hc, g1, g2⟩ := add_both l l' (by omega) (by omega)
      have hm1 := mark_tells l 1 (by omega) (by omega)
      have hm1' := mark_tells l' (1 + (l.length : Int)) (by omega) (by omega)
      have hm2 := mark_tells C.1 1 (by omega) (by omega)
      have hh := held_tells C.1.length 1 (by omega) (by omega)
      have i1 : ¬ (1 + (l.length : Int) + (l'.length : Int) < 0) := by omega
      have i2 : ¬ (1 + (C.1.length : Int) < 0) := by omega
      simp (disch := omega) only [to_tells, eq_tells, g1, g2, Option.bind_some, decide_true, if_true, bne_self_eq_false]
      simp only [laws_FnExactAddState.j0, Bool.false_eq_true, if_false]
      simp (disch := omega) only [to_tells, eq_tells, hm1, hm1', i1, Option.bind_some, decide_true, if_true, if_false, bne_self_eq_false]
      simp only [laws_FnExactAddState.j1, Bool.false_eq_true, if_false]
      simp (disch := omega) only [to_tells, eq_tells, g2, hm2, hh, i2, Option.bind_some, decide_true, if_true, if_false, bne_self_eq_false]
      simp only [laws_FnExactAddState.j2, Bool.false_eq_true, if_false]
      simp (disch := omega) only [hh, i2, Option.bind_some, if_true, if_false]

end Go.Proofs.Ytnkbadlppconjaa.Pure
