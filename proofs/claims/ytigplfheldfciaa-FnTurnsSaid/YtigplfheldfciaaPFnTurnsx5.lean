/- Each function that the statement reaches, as a Lean function, and the proof that a call of it comes to just its answer; written by this claim's own program. No conditions. -/
import Derived.Test.YtigplfheldfciaaPFnTurnsx0
import Derived.Test.YtigplfheldfciaaPFnTurnsx1
import Derived.Test.YtigplfheldfciaaPFnTurnsx2
import Derived.Test.YtigplfheldfciaaPFnTurnsx3
import Derived.Test.YtigplfheldfciaaPFnTurnsx4
namespace Go.Proofs.Ytigplfheldfciaa.PFnTurns
open Go.RowKit Go.Proofs.YtigplfheldfciaaW.PrintWords Go.Proofs.YtigplfheldfciaaW.PrintLast Go.Proofs.YtigplfheldfciaaW.PrintMore
attribute [local go_sem] max2_int min2_int max_two min_two max_three min_three max_four min_four   -- for this text's walks alone
set_option linter.unusedVariables false
set_option linter.unusedSimpArgs false

/-! ### laws_FnTurns: function 6 -/
mutual
def laws_FnTurns.j0 : Nat → List Int → Int → Int → Bool → List (List Int) → List (List Int) → Option (Bool)
  | 0, _, _, _, _, _, _ => none
  | k + 1, x3, x4, x5, x47, x213000, x213001 => if x47 = true then (some false) else (laws_FnTurns.l0 k x3 x4 x5 (([] : List Int)) 0 x213000 x213001)
def laws_FnTurns.l0 : Nat → List Int → Int → Int → List Int → Int → List (List Int) → List (List Int) → Option (Bool)
  | 0, _, _, _, _, _, _, _ => none
  | k + 1, x3, x4, x5, x8, x9, x213000, x213001 => if x9 < (wrap64 (4 * x5)) then (if 0 ≤ (Int.tmod x9 12) then (if (Int.tmod x9 12) < (x3.length : Int) then (if x8.length < 17592186044416 then (laws_FnTurns.l0 k x3 x4 x5 (x8 ++ [wrap64 ((Int.tmod (rd x3 (Int.tmod x9 12)) 255) - 127)]) (wrap64 (x9 + 1)) x213000 x213001) else (none)) else (none)) else (none)) else (if 2 < (x3.length : Int) then (if x4 = 0 then (none) else ((impl_TurnAll.f k x213000 x213001 (Int.tmod (rd x3 2) x4) (wrap64 (2 * x5)) x8).bind fun bt222 => (if 0 ≤ (wrap64 (2 * x5)) then (if (wrap64 (2 * x5)) ≤ (x8.length : Int) then ((impl_TurnAll.f k x213000 x213001 (Int.tmod (rd x3 2) x4) (wrap64 (2 * x5)) (x8.take ((wrap64 (2 * x5)) : Int).toNat)).bind fun bt230 => ((impl_TurnAll.f k x213000 x213001 (Int.tmod (rd x3 2) x4) (wrap64 (2 * x5)) (x8.drop ((wrap64 (2 * x5)) : Int).toNat)).bind fun bt238 => ((impl_TurnAll.f k x213000 x213001 x4 (wrap64 (2 * x5)) x8).bind fun bt242 => (if bt222.2 = true then (if bt230.2 = true then (if bt238.2 = true then (if bt242.2 = true then (some false) else ((laws_byteish.f k bt222.1).bind fun t246 => (if t246 = true then (if (bt222.1.length : Int) = (x8.length : Int) then (if (wrap64 (2 * x5)) ≤ (bt222.1.length : Int) then ((laws_sameInts.f k (bt222.1.take ((wrap64 (2 * x5)) : Int).toNat) bt230.1).bind fun t251 => (if t251 = true then ((laws_sameInts.f k (bt222.1.drop ((wrap64 (2 * x5)) : Int).toNat) bt238.1).bind fun t256 => (some t256)) else (some false))) else (none)) else (some false)) else (some false)))) else (some false)) else (some false)) else (some false))))) else (none)) else (none)))) else (none))
end
def laws_FnTurns.f (k : Nat) (l0 : List Int) : Option (Bool) := (laws_big.f l0).bind fun t199 => (if t199 = true then (some true) else ((spec_DrawPlaces.f k l0).bind fun t200 => (if 0 < (t200.length : Int) then (if 1 < (t200.length : Int) then ((impl_TurnsFor.f k (wrap64 (4 + (Int.tmod (rd t200 0) 20))) (wrap64 (1 + (Int.tmod (rd t200 1) 2)))).bind fun bt205 => (if bt205.2.2 = true then ((impl_TurnsOk.f bt205.1 bt205.2.1 (wrap64 (4 + (Int.tmod (rd t200 0) 20))) (wrap64 (1 + (Int.tmod (rd t200 1) 2)))).bind fun t213 => (laws_FnTurns.j0 k t200 (wrap64 (4 + (Int.tmod (rd t200 0) 20))) (wrap64 (1 + (Int.tmod (rd t200 1) 2))) (!t213) bt205.1 bt205.2.1)) else (laws_FnTurns.j0 k t200 (wrap64 (4 + (Int.tmod (rd t200 0) 20))) (wrap64 (1 + (Int.tmod (rd t200 1) 2))) true bt205.1 bt205.2.1))) else (none)) else (none))))
theorem laws_FnTurns.mono_l : ∀ k, (∀ y0 y1 y2 y3 y4 y5, LeO (laws_FnTurns.j0 k y0 y1 y2 y3 y4 y5) (laws_FnTurns.j0 (k + 1) y0 y1 y2 y3 y4 y5)) ∧ (∀ y0 y1 y2 y3 y4 y5 y6, LeO (laws_FnTurns.l0 k y0 y1 y2 y3 y4 y5 y6) (laws_FnTurns.l0 (k + 1) y0 y1 y2 y3 y4 y5 y6))
  | 0 => ⟨fun _ _ _ _ _ _ r h => by simp [laws_FnTurns.j0] at h, fun _ _ _ _ _ _ _ r h => by simp [laws_FnTurns.l0] at h⟩
  | k + 1 => by
    obtain ⟨ih0, ih1⟩ := laws_FnTurns.mono_l k
    refine ⟨?_, ?_⟩
    · intro y0 y1 y2 y3 y4 y5
      unfold laws_FnTurns.j0
      repeat' first
      | (with_reducible exact ih0 _ _ _ _ _ _)
      | (with_reducible exact ih1 _ _ _ _ _ _ _)
      | (with_reducible exact impl_TurnAll.mono _ _ _ _ _ _)
      | (with_reducible exact impl_TurnsFor.mono _ _ _)
      | (with_reducible exact laws_byteish.mono _ _)
      | (with_reducible exact laws_sameInts.mono _ _ _)
      | (with_reducible exact spec_DrawPlaces.mono _ _)
      | (with_reducible exact LeO.refl _)
      | (with_reducible exact LeO.none _)
      | (with_reducible refine LeO.ite ?_ ?_)
      | (with_reducible refine LeO.bind ?_ (fun _ => ?_))
      | exact ih0 _ _ _ _ _ _
      | exact ih1 _ _ _ _ _ _ _
      | exact impl_TurnAll.mono _ _ _ _ _ _
      | exact impl_TurnsFor.mono _ _ _
      | exact laws_byteish.mono _ _
      | exact laws_sameInts.mono _ _ _
      | exact spec_DrawPlaces.mono _ _
      | exact LeO.none _
      | refine LeO.ite ?_ ?_
      | refine LeO.bind ?_ (fun _ => ?_)
    · intro y0 y1 y2 y3 y4 y5 y6
      unfold laws_FnTurns.l0
      repeat' first
      | (with_reducible exact ih0 _ _ _ _ _ _)
      | (with_reducible exact ih1 _ _ _ _ _ _ _)
      | (with_reducible exact impl_TurnAll.mono _ _ _ _ _ _)
      | (with_reducible exact impl_TurnsFor.mono _ _ _)
      | (with_reducible exact laws_byteish.mono _ _)
      | (with_reducible exact laws_sameInts.mono _ _ _)
      | (with_reducible exact spec_DrawPlaces.mono _ _)
      | (with_reducible exact LeO.refl _)
      | (with_reducible exact LeO.none _)
      | (with_reducible refine LeO.ite ?_ ?_)
      | (with_reducible refine LeO.bind ?_ (fun _ => ?_))
      | exact ih0 _ _ _ _ _ _
      | exact ih1 _ _ _ _ _ _ _
      | exact impl_TurnAll.mono _ _ _ _ _ _
      | exact impl_TurnsFor.mono _ _ _
      | exact laws_byteish.mono _ _
      | exact laws_sameInts.mono _ _ _
      | exact spec_DrawPlaces.mono _ _
      | exact LeO.none _
      | refine LeO.ite ?_ ?_
      | refine LeO.bind ?_ (fun _ => ?_)
theorem laws_FnTurns.mono : ∀ a0 k, LeO (laws_FnTurns.f k a0) (laws_FnTurns.f (k + 1) a0) := by
  intro a0 k
  obtain ⟨ih0, ih1⟩ := laws_FnTurns.mono_l k
  unfold laws_FnTurns.f
  repeat' first
      | (with_reducible exact ih0 _ _ _ _ _ _)
      | (with_reducible exact ih1 _ _ _ _ _ _ _)
      | (with_reducible exact impl_TurnAll.mono _ _ _ _ _ _)
      | (with_reducible exact impl_TurnsFor.mono _ _ _)
      | (with_reducible exact laws_byteish.mono _ _)
      | (with_reducible exact laws_sameInts.mono _ _ _)
      | (with_reducible exact spec_DrawPlaces.mono _ _)
      | (with_reducible exact LeO.refl _)
      | (with_reducible exact LeO.none _)
      | (with_reducible refine LeO.ite ?_ ?_)
      | (with_reducible refine LeO.bind ?_ (fun _ => ?_))
      | exact ih0 _ _ _ _ _ _
      | exact ih1 _ _ _ _ _ _ _
      | exact impl_TurnAll.mono _ _ _ _ _ _
      | exact impl_TurnsFor.mono _ _ _
      | exact laws_byteish.mono _ _
      | exact laws_sameInts.mono _ _ _
      | exact spec_DrawPlaces.mono _ _
      | exact LeO.none _
      | refine LeO.ite ?_ ?_
      | refine LeO.bind ?_ (fun _ => ?_)
def laws_FnTurns.T16 : Bool × List (List Nat × List Nat) := (true, [([], []), ([], []), ([], []), ([2], [2]), ([], []), ([], []), ([5], [5]), ([4, 6], [4, 6]), ([0, 1, 3, 7], [0, 1, 3, 7]), ([8], [8]), ([9], [9]), ([9], [9]), ([10, 8, 0, 1, 2, 3, 4, 5, 6, 7, 8, 9, 10], [10]), ([11, 12, 0, 1, 2, 3, 4, 5, 6, 7, 8, 9, 10, 11, 12], [11])])
def laws_FnTurns.B16 : List Nat := [0, 0, 0, 4, 0, 0, 32, 112, 255, 511, 1023, 1023, 2047, 8191]
theorem laws_FnTurns.tab16 : rtab .any (opsOf Try.f6 16) = laws_FnTurns.T16 := by kernel_rfl
theorem laws_FnTurns.bits16 : waitsOk laws_FnTurns.T16.2 laws_FnTurns.B16 = true := by kernel_rfl
def laws_FnTurns.T17 : Bool × List (List Nat × List Nat) := (true, [([], []), ([], []), ([], []), ([2], [2]), ([], []), ([], []), ([5], [5]), ([4, 6], [4, 6]), ([0, 1, 3, 7], [0, 1, 3, 7]), ([8], [8]), ([9], [9]), ([9], [9]), ([10, 8, 0, 1, 2, 3, 4, 5, 6, 7, 8, 9, 10], [10]), ([11, 12, 0, 1, 2, 3, 4, 5, 6, 7, 8, 9, 10, 11, 12], [11])])
def laws_FnTurns.B17 : List Nat := [0, 0, 0, 4, 0, 0, 32, 112, 255, 511, 1023, 1023, 2047, 8191]
theorem laws_FnTurns.tab17 : rtab .any (opsOf Try.f6 17) = laws_FnTurns.T17 := by kernel_rfl
theorem laws_FnTurns.bits17 : waitsOk laws_FnTurns.T17.2 laws_FnTurns.B17 = true := by kernel_rfl
set_option maxHeartbeats 8000000 in
set_option maxRecDepth 100000 in
theorem laws_FnTurns.calls (k : Nat) (A0 : Option Addr) (c0 : Nat) (l0 : List Int) (r : Bool) (hr_ : r = true) (w : World) (hr0 : Kd.C (Kd.int .u8) w A0 l0.length l0) (hc0 : l0.length ≤ c0) (h : laws_FnTurns.f k l0 = some r) :
    Calls Try.prog 6 #[.slice A0 l0.length c0] w fun e w' => e = .returned (.bool r) ∧ Below w.heap.size w w' := by
  have hu24 := Try.underlying24
  have HR0 := Aside0.mk hr0
  have HC0 := Aside0.mk hc0
  clear hr0 hc0
  have HB := Aside0.mk (Below.refl w.heap.size w)
  have H : ((laws_big.f l0).bind fun t199 => (if t199 = true then (some true) else ((spec_DrawPlaces.f k l0).bind fun t200 => (if 0 < (t200.length : Int) then (if 1 < (t200.length : Int) then ((impl_TurnsFor.f k (wrap64 (4 + (Int.tmod (rd t200 0) 20))) (wrap64 (1 + (Int.tmod (rd t200 1) 2)))).bind fun bt205 => (if bt205.2.2 = true then ((impl_TurnsOk.f bt205.1 bt205.2.1 (wrap64 (4 + (Int.tmod (rd t200 0) 20))) (wrap64 (1 + (Int.tmod (rd t200 1) 2)))).bind fun t213 => (laws_FnTurns.j0 k t200 (wrap64 (4 + (Int.tmod (rd t200 0) 20))) (wrap64 (1 + (Int.tmod (rd t200 1) 2))) (!t213) bt205.1 bt205.2.1)) else (laws_FnTurns.j0 k t200 (wrap64 (4 + (Int.tmod (rd t200 0) 20))) (wrap64 (1 + (Int.tmod (rd t200 1) 2))) true bt205.1 bt205.2.1))) else (none)) else (none))))) = some r := h
  clear h
  replace H := Option.bind_eq_some_iff.mp H
  obtain ⟨t199, A20, H⟩ := H
  replace H : (if t199 = true then (some true) else ((spec_DrawPlaces.f k l0).bind fun t200 => (if 0 < (t200.length : Int) then (if 1 < (t200.length : Int) then ((impl_TurnsFor.f k (wrap64 (4 + (Int.tmod (rd t200 0) 20))) (wrap64 (1 + (Int.tmod (rd t200 1) 2)))).bind fun bt205 => (if bt205.2.2 = true then ((impl_TurnsOk.f bt205.1 bt205.2.1 (wrap64 (4 + (Int.tmod (rd t200 0) 20))) (wrap64 (1 + (Int.tmod (rd t200 1) 2)))).bind fun t213 => (laws_FnTurns.j0 k t200 (wrap64 (4 + (Int.tmod (rd t200 0) 20))) (wrap64 (1 + (Int.tmod (rd t200 1) 2))) (!t213) bt205.1 bt205.2.1)) else (laws_FnTurns.j0 k t200 (wrap64 (4 + (Int.tmod (rd t200 0) 20))) (wrap64 (1 + (Int.tmod (rd t200 1) 2))) true bt205.1 bt205.2.1))) else (none)) else (none)))) = some r := H
  have A2 := Aside0.mk A20
  clear A20
  by_cases c3 : t199 = true
  · subst c3
    have H1 : (some true) = some r := by rw [if_pos rfl] at H; exact H
    clear H
    have H := H1
    clear H1
    obtain rfl := Option.some.inj H
    go_enter Try.func6, Try.ntmps6
    go_wp2_with (first | ((with_reducible refine gate_callee (f := 20) rfl ?_); refine goesL_ (some 20) rfl rfl Try.func20 (by kernel_rfl) rfl #[.slice A0 l0.length c0] rfl (by (try simp only [List.map_toArray, List.map_cons, List.map_nil]); first | done | rfl | (simp only [List.length_drop, List.length_take]; rfl)) ?_; (with_reducible refine (laws_big.calls _ _ l0 true _ ?side1 ?side2 A2.out).mono ?_); (case side1 => repeat (first | exact HR0.out | (with_reducible refine Kd.C_alloc ?_ _) | (with_reducible refine Kd.C_drewN ?_ _) | (with_reducible refine Kd.C_drew ?_))); (case side2 => exact HC0.out); rintro e w' ⟨rfl, ⟨nd, rfl⟩⟩; refine ⟨_, rfl, ?_⟩))
    go_ret
    exact ⟨by first | rfl | (simp [errW_none, errW_some] <;> rfl) | (simp [*, errW_none, errW_some] <;> rfl), by repeat (first | (with_reducible first | exact HB.out | apply below_alloc | apply pw_below_drewN | apply below_drew1) | exact HB.out)⟩
  · replace c3 := Bool.eq_false_iff.mpr c3
    subst c3
    have H1 : ((spec_DrawPlaces.f k l0).bind fun t200 => (if 0 < (t200.length : Int) then (if 1 < (t200.length : Int) then ((impl_TurnsFor.f k (wrap64 (4 + (Int.tmod (rd t200 0) 20))) (wrap64 (1 + (Int.tmod (rd t200 1) 2)))).bind fun bt205 => (if bt205.2.2 = true then ((impl_TurnsOk.f bt205.1 bt205.2.1 (wrap64 (4 + (Int.tmod (rd t200 0) 20))) (wrap64 (1 + (Int.tmod (rd t200 1) 2)))).bind fun t213 => (laws_FnTurns.j0 k t200 (wrap64 (4 + (Int.tmod (rd t200 0) 20))) (wrap64 (1 + (Int.tmod (rd t200 1) 2))) (!t213) bt205.1 bt205.2.1)) else (laws_FnTurns.j0 k t200 (wrap64 (4 + (Int.tmod (rd t200 0) 20))) (wrap64 (1 + (Int.tmod (rd t200 1) 2))) true bt205.1 bt205.2.1))) else (none)) else (none))) = some r := by rw [if_neg (show ¬ (false = true) by decide)] at H; exact H
    clear H
    have H := H1
    clear H1
    replace H := Option.bind_eq_some_iff.mp H
    obtain ⟨t200, A40, H⟩ := H
    replace H : (if 0 < (t200.length : Int) then (if 1 < (t200.length : Int) then ((impl_TurnsFor.f k (wrap64 (4 + (Int.tmod (rd t200 0) 20))) (wrap64 (1 + (Int.tmod (rd t200 1) 2)))).bind fun bt205 => (if bt205.2.2 = true then ((impl_TurnsOk.f bt205.1 bt205.2.1 (wrap64 (4 + (Int.tmod (rd t200 0) 20))) (wrap64 (1 + (Int.tmod (rd t200 1) 2)))).bind fun t213 => (laws_FnTurns.j0 k t200 (wrap64 (4 + (Int.tmod (rd t200 0) 20))) (wrap64 (1 + (Int.tmod (rd t200 1) 2))) (!t213) bt205.1 bt205.2.1)) else (laws_FnTurns.j0 k t200 (wrap64 (4 + (Int.tmod (rd t200 0) 20))) (wrap64 (1 + (Int.tmod (rd t200 1) 2))) true bt205.1 bt205.2.1))) else (none)) else (none)) = some r := H
    have A4 := Aside0.mk A40
    clear A40
    by_cases c5 : 0 < (t200.length : Int)
    · rw [if_pos c5] at H
      have c5b0 : decide (0 < (t200.length : Int)) = true := decide_eq_true c5
      have c5b1 : decide (0 < t200.length) = true := decide_eq_true (by omega)
      clear c5
      by_cases c6 : 1 < (t200.length : Int)
      · rw [if_pos c6] at H
        have c6b0 : decide (1 < (t200.length : Int)) = true := decide_eq_true c6
        have c6b1 : decide (1 < t200.length) = true := decide_eq_true (by omega)
        clear c6
        replace H := Option.bind_eq_some_iff.mp H
        obtain ⟨⟨t205, t208, t211⟩, A70, H⟩ := H
        replace H : (if t211 = true then ((impl_TurnsOk.f t205 t208 (wrap64 (4 + (Int.tmod (rd t200 0) 20))) (wrap64 (1 + (Int.tmod (rd t200 1) 2)))).bind fun t213 => (laws_FnTurns.j0 k t200 (wrap64 (4 + (Int.tmod (rd t200 0) 20))) (wrap64 (1 + (Int.tmod (rd t200 1) 2))) (!t213) t205 t208)) else (laws_FnTurns.j0 k t200 (wrap64 (4 + (Int.tmod (rd t200 0) 20))) (wrap64 (1 + (Int.tmod (rd t200 1) 2))) true t205 t208)) = some r := H
        have A7 := Aside0.mk A70
        clear A70
        have HC8 := Aside0.mk H
        clear H
        go_enter Try.func6, Try.ntmps6
        go_upto_region 7 with (first | ((with_reducible refine gate_callee (f := 20) rfl ?_); refine goesL_ (some 20) rfl rfl Try.func20 (by kernel_rfl) rfl #[.slice A0 l0.length c0] rfl (by (try simp only [List.map_toArray, List.map_cons, List.map_nil]); first | done | rfl | (simp only [List.length_drop, List.length_take]; rfl)) ?_; (with_reducible refine (laws_big.calls _ _ l0 false _ ?side1 ?side2 A2.out).mono ?_); (case side1 => repeat (first | exact HR0.out | (with_reducible refine Kd.C_alloc ?_ _) | (with_reducible refine Kd.C_drewN ?_ _) | (with_reducible refine Kd.C_drew ?_))); (case side2 => exact HC0.out); rintro e w' ⟨rfl, ⟨nd, rfl⟩⟩; refine ⟨_, rfl, ?_⟩) | ((with_reducible refine gate_callee (f := 35) rfl ?_); refine goesL_ (some 22) rfl rfl Try.func35 (by kernel_rfl) rfl #[.slice A0 l0.length c0] rfl (by (try simp only [List.map_toArray, List.map_cons, List.map_nil]); first | done | rfl | (simp only [List.length_drop, List.length_take]; rfl)) ?_; (with_reducible refine (spec_DrawPlaces.calls k _ _ l0 t200 _ ?side1 ?side2 A4.out).mono ?_); (case side1 => repeat (first | exact HR0.out | (with_reducible refine Kd.C_alloc ?_ _) | (with_reducible refine Kd.C_drewN ?_ _) | (with_reducible refine Kd.C_drew ?_))); (case side2 => exact HC0.out); rintro e w9 ⟨v201, rfl, ho0, hb⟩; refine ⟨_, rfl, ?_⟩; have n0_ := Aside0.mk (Kd.R_lower ho0 (below_size (by repeat (first | (with_reducible first | exact HB.out | apply below_alloc | apply pw_below_drewN | apply below_drew1) | exact HB.out)))); have n1_ := Aside0.mk (below_step (by repeat (first | (with_reducible first | exact HB.out | apply below_alloc | apply pw_below_drewN | apply below_drew1) | exact HB.out)) hb); clear HB; have HO202 := n0_; have HB := n1_; clear n0_ n1_; (try clear hb); (try clear hb2); (try clear hk); (try clear hi); (try clear ho0); obtain ⟨Ao10, co10, eo10⟩ := Kd.R_slice HO202.out; subst eo10; have p203 : 0 ≤ (0 : Int) := (by omega); have q203 : 0 < (t200.length : Int) := of_decide_eq_true (by first | (with_reducible assumption) | assumption); obtain ⟨ad203, e203, hx203_0⟩ := Kd.at_int (Kd.R_reads' HO202.out).2.2 0 p203 q203; cases e203; have qi203 : (0 < t200.length) = True := eq_true (by omega); (try rw [show ((0 : Int)).toNat = 0 from rfl] at hx203_0); (try rw [Addr.add_zero'] at hx203_0); replace p203 := eq_true p203; replace q203 := eq_true q203; have p204 : 0 ≤ (1 : Int) := (by omega); have q204 : 1 < (t200.length : Int) := of_decide_eq_true (by first | (with_reducible assumption) | assumption); obtain ⟨ad204, e204, hx204_0⟩ := Kd.at_int (Kd.R_reads' HO202.out).2.2 1 p204 q204; obtain rfl : ad203 = ad204 := (by injection e204); (try simp only [show (1 : Int).toNat = 1 from rfl, Nat.reduceMul, Nat.reduceEqDiff, Go.Addr.add, ↓reduceIte] at hx204_0); have qi204 : (1 < t200.length) = True := eq_true (by omega); (try rw [show ((1 : Int)).toNat = 1 from rfl] at hx204_0); replace p204 := eq_true p204; replace q204 := eq_true q204) | ((with_reducible refine gate_callee (f := 16) rfl ?_); refine goesL_ (some 36) rfl rfl Try.func16 (by kernel_rfl) rfl #[.int .i64 (wrap64 (4 + (Int.tmod (rd t200 0) 20))), .int .i64 (wrap64 (1 + (Int.tmod (rd t200 1) 2)))] rfl (by (try simp only [List.map_toArray, List.map_cons, List.map_nil]); first | done | rfl | (simp only [List.length_drop, List.length_take]; rfl)) ?_; (with_reducible refine (impl_TurnsFor.calls k (wrap64 (4 + (Int.tmod (rd t200 0) 20))) (wrap64 (1 + (Int.tmod (rd t200 1) 2))) t205 t208 t211 _ A7.out).mono ?_); rintro e w11 ⟨v206, v209, rfl, ho0, ho1, hb⟩; refine ⟨_, rfl, ?_⟩; have n0_ := Aside0.mk (Kd.R_below (by (with_reducible repeat (first | apply Kd.R_alloc | apply Kd.R_drewN | apply Kd.R_drew)); exact HO202.out) hb); have n1_ := Aside0.mk (Kd.S_lower (Kd.S_new' ho0 (Kd.R_lt (by (with_reducible repeat (first | apply Kd.R_alloc | apply Kd.R_drewN | apply Kd.R_drew)); exact HO202.out))) (below_size (by repeat (first | (with_reducible first | exact HB.out | apply below_alloc | apply pw_below_drewN | apply below_drew1) | exact HB.out)))); have n2_ := Aside0.mk (Kd.S_lower (Kd.S_new' ho1 (Kd.R_lt (by (with_reducible repeat (first | apply Kd.R_alloc | apply Kd.R_drewN | apply Kd.R_drew)); exact HO202.out))) (below_size (by repeat (first | (with_reducible first | exact HB.out | apply below_alloc | apply pw_below_drewN | apply below_drew1) | exact HB.out)))); have n3_ := Aside0.mk (below_step (by repeat (first | (with_reducible first | exact HB.out | apply below_alloc | apply pw_below_drewN | apply below_drew1) | exact HB.out)) hb); clear HO202; clear HB; have HO202 := n0_; have HO207 := n1_; have HO210 := n2_; have HB := n3_; clear n0_ n1_ n2_ n3_; (try clear hb); (try clear hb2); (try clear hk); (try clear hi); (try clear ho0); (try clear ho1)) | ((with_reducible refine gate_dst (N := 6) rfl ?_); (try (refine gate_guard (by rfl) ?_; dsimp only)); refine box_event ?hg (N := 6) ?hd (cs := #[.slice none 0 0, .slice none 0 0]) (t := 24) ?hr ?_; (case hd => rfl); (case hg => rfl); (case hr => first | (go_simp; done) | (go_simp; rfl)); intro gb212 hg w12 hbox hb; have n0_ := Aside0.mk (Kd.R_below (by (with_reducible repeat (first | apply Kd.R_alloc | apply Kd.R_drewN | apply Kd.R_drew)); exact HO202.out) hb); have n1_ := Aside0.mk (Kd.S_below (by (with_reducible repeat (first | apply Kd.S_alloc | apply Kd.S_drewN | apply Kd.S_drew)); exact HO207.out) hb); have n2_ := Aside0.mk (Kd.S_below (by (with_reducible repeat (first | apply Kd.S_alloc | apply Kd.S_drewN | apply Kd.S_drew)); exact HO210.out) hb); have n3_ := Aside0.mk (below_step (by repeat (first | (with_reducible first | exact HB.out | apply below_alloc | apply pw_below_drewN | apply below_drew1) | exact HB.out)) hb); have n4_ := Aside0.mk (hbox); have n5_ := Aside0.mk ((by rw [hg]; exact (below_size (by repeat (first | (with_reducible first | exact HB.out | apply below_alloc | apply pw_below_drewN | apply below_drew1) | exact HB.out))) : w.heap.size ≤ gb212)); have n6_ := Aside0.mk ((by rw [hg]; exact (below_size (by repeat (first | (with_reducible first | exact HB.out | apply below_alloc | apply pw_below_drewN | apply below_drew1) | exact HB.out))) : w.heap.size ≤ gb212)); clear HO202; clear HO207; clear HO210; clear HB; have HO202 := n0_; have HO207 := n1_; have HO210 := n2_; have HB := n3_; have BK212 := n4_; have GW212 := n5_; have GE212 := n6_; clear n0_ n1_ n2_ n3_ n4_ n5_ n6_; clear hb hbox hg; obtain ⟨Ao13, co13, eo13⟩ := Kd.S_slice HO207.out; subst eo13; have hcz14_0 : w12.cell? ⟨gb212, 0, none⟩ = some (.slice none 0 0) := (blk_cell BK212.out 0).trans rfl; have hcz14_1 : w12.cell? ⟨gb212, 1, none⟩ = some (.slice none 0 0) := (blk_cell BK212.out 1).trans rfl; have hfz14_0 := blk_frozen BK212.out 0; have hfz14_1 := blk_frozen BK212.out 1; obtain ⟨Ao15, co15, eo15⟩ := Kd.S_slice HO210.out; subst eo15))
        (try simp only [Act.put, List.setIfInBounds_toArray, List.set_cons_zero, List.set_cons_succ])
        go_cut [47] (fun v47 wc => ∃ (kq : Nat) (x47_7 : Bool), v47 = .bool x47_7 ∧ Aside0 (laws_FnTurns.j0 kq t200 (wrap64 (4 + (Int.tmod (rd t200 0) 20))) (wrap64 (1 + (Int.tmod (rd t200 1) 2))) x47_7 t205 t208 = some r) ∧ Aside0 (kq ≤ k) ∧ Aside0 (Kd.R (Kd.int .i64) 3 wc w.heap.size (fun _ => True) (.slice (some ad203) t200.length co10) t200) ∧ Aside0 (Kd.S (Kd.slice 3 (Kd.int .i64)) 32 wc w.heap.size (fun k_ => some k_ ≠ ((.slice (some ad203) t200.length co10) : Value).ownBlock ∧ some k_ ≠ ((.slice Ao15 t208.length co15) : Value).ownBlock) (.slice Ao13 t205.length co13) t205) ∧ Aside0 (Kd.S (Kd.slice 3 (Kd.int .i64)) 32 wc w.heap.size (fun k_ => some k_ ≠ ((.slice (some ad203) t200.length co10) : Value).ownBlock ∧ some k_ ≠ ((.slice Ao13 t205.length co13) : Value).ownBlock) (.slice Ao15 t208.length co15) t208) ∧ Aside0 (wc.heap[gb212]? = some (.cells #[(.slice Ao13 t205.length co13), (.slice Ao15 t208.length co15)] 24 (0, 0))) ∧ Aside0 (Below w.heap.size w wc))
        case first =>
          have H := HC8.out
          clear HC8
          by_cases c16 : t211 = true
          · subst c16
            have H1 : ((impl_TurnsOk.f t205 t208 (wrap64 (4 + (Int.tmod (rd t200 0) 20))) (wrap64 (1 + (Int.tmod (rd t200 1) 2)))).bind fun t213 => (laws_FnTurns.j0 k t200 (wrap64 (4 + (Int.tmod (rd t200 0) 20))) (wrap64 (1 + (Int.tmod (rd t200 1) 2))) (!t213) t205 t208)) = some r := by rw [if_pos rfl] at H; exact H
            clear H
            have H := H1
            clear H1
            replace H := Option.bind_eq_some_iff.mp H
            obtain ⟨t213, A170, H⟩ := H
            replace H : (laws_FnTurns.j0 k t200 (wrap64 (4 + (Int.tmod (rd t200 0) 20))) (wrap64 (1 + (Int.tmod (rd t200 1) 2))) (!t213) t205 t208) = some r := H
            have A17 := Aside0.mk A170
            clear A170
            have H' := Aside0.mk H
            clear H
            have hcz18_0 : w12.cell? ⟨gb212, 0, none⟩ = some (.slice none 0 0) := (blk_cell BK212.out 0).trans rfl
            have hcz18_1 : w12.cell? ⟨gb212, 1, none⟩ = some (.slice none 0 0) := (blk_cell BK212.out 1).trans rfl
            have hfz18_0 := blk_frozen BK212.out 0
            have hfz18_1 := blk_frozen BK212.out 1
            go_wp2_with (first | (go_at_call 36; (with_reducible refine (impl_TurnsOk.calls _ _ t205 _ _ t208 (wrap64 (4 + (Int.tmod (rd t200 0) 20))) (wrap64 (1 + (Int.tmod (rd t200 1) 2))) t213 _ ?side1 ?side2 ?side3 ?side4 A17.out).mono ?_); (case side1 => refine (Kd.S_reads' (e := 32) (base := w.heap.size) (ok := fun k_ => (some k_ ≠ (.slice Ao15 t208.length co15 : Value).ownBlock ∧ some k_ ≠ (.slice (some ad203) t200.length co10 : Value).ownBlock)) (n := t205.length) (c := co13) ?_).2.2; exact (by (with_reducible repeat (first | apply Kd.S_alloc | apply Kd.S_drewN | apply Kd.S_drew)); exact (Kd.S_mono (Kd.S_far (p := ⟨gb212, 1, none⟩) (Kd.S_far (p := ⟨gb212, 0, none⟩) (Kd.S_types HO207.out BK212.out (by decide)) (fun _ hk => hk.2) (.slice Ao13 t205.length co13)) (fun _ hk => hk.2) (.slice Ao15 t208.length co15)) (fun _ h_ => h_.1)))); (case side2 => exact (Kd.S_reads' HO207.out).2.1); (case side3 => refine (Kd.S_reads' (e := 32) (base := w.heap.size) (ok := fun k_ => (some k_ ≠ (.slice Ao13 t205.length co13 : Value).ownBlock ∧ some k_ ≠ (.slice (some ad203) t200.length co10 : Value).ownBlock)) (n := t208.length) (c := co15) ?_).2.2; exact (by (with_reducible repeat (first | apply Kd.S_alloc | apply Kd.S_drewN | apply Kd.S_drew)); exact (Kd.S_mono (Kd.S_far (p := ⟨gb212, 1, none⟩) (Kd.S_far (p := ⟨gb212, 0, none⟩) (Kd.S_types HO210.out BK212.out (by decide)) (fun _ hk => hk.2) (.slice Ao13 t205.length co13)) (fun _ hk => hk.2) (.slice Ao15 t208.length co15)) (fun _ h_ => h_.1)))); (case side4 => exact (Kd.S_reads' HO210.out).2.1); rintro e w19 ⟨rfl, hb⟩; have n0_ := Aside0.mk (Kd.R_below (by (with_reducible repeat (first | apply Kd.R_alloc | apply Kd.R_drewN | apply Kd.R_drew)); exact (Kd.R_mono (Kd.R_far (p := ⟨gb212, 1, none⟩) (Kd.R_far (p := ⟨gb212, 0, none⟩) (Kd.R_types HO202.out BK212.out (by decide)) (fun _ hk => hk.2) (.slice Ao13 t205.length co13)) (fun _ hk => hk.2) (.slice Ao15 t208.length co15)) (fun _ h_ => h_.1))) hb); have n1_ := Aside0.mk (Kd.S_below (by (with_reducible repeat (first | apply Kd.S_alloc | apply Kd.S_drewN | apply Kd.S_drew)); exact (Kd.S_mono (Kd.S_far (p := ⟨gb212, 1, none⟩) (Kd.S_far (p := ⟨gb212, 0, none⟩) (Kd.S_types HO207.out BK212.out (by decide)) (fun _ hk => hk.2) (.slice Ao13 t205.length co13)) (fun _ hk => hk.2) (.slice Ao15 t208.length co15)) (fun _ h_ => h_.1))) hb); have n2_ := Aside0.mk (Kd.S_below (by (with_reducible repeat (first | apply Kd.S_alloc | apply Kd.S_drewN | apply Kd.S_drew)); exact (Kd.S_mono (Kd.S_far (p := ⟨gb212, 1, none⟩) (Kd.S_far (p := ⟨gb212, 0, none⟩) (Kd.S_types HO210.out BK212.out (by decide)) (fun _ hk => hk.2) (.slice Ao13 t205.length co13)) (fun _ hk => hk.2) (.slice Ao15 t208.length co15)) (fun _ h_ => h_.1))) hb); have n3_ := Aside0.mk (blk_below (g := gb212) (o := .cells #[.slice Ao13 t205.length co13, .slice Ao15 t208.length co15] 24 (0, 0)) (by (with_reducible repeat (first | refine blk_drewN ?_ _ | refine blk_drew ?_ | refine blk_alloc ?_ _)); refine blk_put (cs := #[.slice Ao13 t205.length co13, .slice none 0 0]) ?_ 1 _ rfl; (with_reducible repeat (first | refine blk_drewN ?_ _ | refine blk_drew ?_ | refine blk_alloc ?_ _)); refine blk_put (cs := #[.slice none 0 0, .slice none 0 0]) ?_ 0 _ rfl; (with_reducible repeat (first | refine blk_drewN ?_ _ | refine blk_drew ?_ | refine blk_alloc ?_ _)); exact BK212.out) hb); have n4_ := Aside0.mk (below_step (by repeat (first | (with_reducible first | exact HB.out | apply below_alloc | apply pw_below_drewN | apply below_drew1 | refine below_set ?_ GE212.out) | exact HB.out)) hb); clear HO202; clear HO207; clear HO210; clear BK212; clear HB; have HO202 := n0_; have HO207 := n1_; have HO210 := n2_; have BK212 := n3_; have HB := n4_; clear n0_ n1_ n2_ n3_ n4_; (try clear hb); (try clear hb2); (try clear hk); (try clear hi)))
            go_meet
            case rel => exact ⟨_, (!t213), (by first | rfl | (simp; done) | (simp [*]; done)), H', ⟨by first | omega | exact Nat.le_refl _⟩, ⟨by (with_reducible repeat (first | apply Kd.R_alloc | apply Kd.R_drewN | apply Kd.R_drew)); exact HO202.out⟩, ⟨by (with_reducible repeat (first | apply Kd.S_alloc | apply Kd.S_drewN | apply Kd.S_drew)); exact Kd.S_mono HO207.out (fun _ hk => ⟨hk.2, hk.1⟩)⟩, ⟨by (with_reducible repeat (first | apply Kd.S_alloc | apply Kd.S_drewN | apply Kd.S_drew)); exact Kd.S_mono HO210.out (fun _ hk => ⟨hk.2, hk.1⟩)⟩, ⟨by (with_reducible repeat (first | refine blk_drewN ?_ _ | refine blk_drew ?_ | refine blk_alloc ?_ _)); exact BK212.out⟩, ⟨by repeat (first | (with_reducible first | exact HB.out | apply below_alloc | apply pw_below_drewN | apply below_drew1 | refine below_set ?_ GE212.out) | exact HB.out)⟩⟩
          · replace c16 := Bool.eq_false_iff.mpr c16
            subst c16
            have H1 : (laws_FnTurns.j0 k t200 (wrap64 (4 + (Int.tmod (rd t200 0) 20))) (wrap64 (1 + (Int.tmod (rd t200 1) 2))) true t205 t208) = some r := by rw [if_neg (show ¬ (false = true) by decide)] at H; exact H
            clear H
            have H := H1
            clear H1
            have H' := Aside0.mk H
            clear H
            go_wp2
            go_meet
            case rel => exact ⟨_, (true), (by first | rfl | (simp; done) | (simp [*]; done)), H', ⟨by first | omega | exact Nat.le_refl _⟩, ⟨by (with_reducible repeat (first | apply Kd.R_alloc | apply Kd.R_drewN | apply Kd.R_drew)); exact Kd.R_mono (Kd.R_far (p := ⟨gb212, 1, none⟩) (Kd.R_far (p := ⟨gb212, 0, none⟩) (Kd.R_types HO202.out BK212.out (by decide)) (fun _ hk => hk.2) (.slice Ao13 t205.length co13)) (fun _ hk => hk.2) (.slice Ao15 t208.length co15)) (fun _ hk => trivial)⟩, ⟨by (with_reducible repeat (first | apply Kd.S_alloc | apply Kd.S_drewN | apply Kd.S_drew)); exact Kd.S_mono (Kd.S_far (p := ⟨gb212, 1, none⟩) (Kd.S_far (p := ⟨gb212, 0, none⟩) (Kd.S_types HO207.out BK212.out (by decide)) (fun _ hk => hk.2) (.slice Ao13 t205.length co13)) (fun _ hk => hk.2) (.slice Ao15 t208.length co15)) (fun _ hk => ⟨hk.1.2, hk.1.1⟩)⟩, ⟨by (with_reducible repeat (first | apply Kd.S_alloc | apply Kd.S_drewN | apply Kd.S_drew)); exact Kd.S_mono (Kd.S_far (p := ⟨gb212, 1, none⟩) (Kd.S_far (p := ⟨gb212, 0, none⟩) (Kd.S_types HO210.out BK212.out (by decide)) (fun _ hk => hk.2) (.slice Ao13 t205.length co13)) (fun _ hk => hk.2) (.slice Ao15 t208.length co15)) (fun _ hk => ⟨hk.1.2, hk.1.1⟩)⟩, ⟨by (with_reducible repeat (first | refine blk_drewN ?_ _ | refine blk_drew ?_ | refine blk_alloc ?_ _)); refine blk_put (cs := #[.slice Ao13 t205.length co13, .slice none 0 0]) ?_ 1 _ rfl; (with_reducible repeat (first | refine blk_drewN ?_ _ | refine blk_drew ?_ | refine blk_alloc ?_ _)); refine blk_put (cs := #[.slice none 0 0, .slice none 0 0]) ?_ 0 _ rfl; (with_reducible repeat (first | refine blk_drewN ?_ _ | refine blk_drew ?_ | refine blk_alloc ?_ _)); exact BK212.out⟩, ⟨by repeat (first | (with_reducible first | exact HB.out | apply below_alloc | apply pw_below_drewN | apply below_drew1 | refine below_set ?_ GE212.out) | exact HB.out)⟩⟩
        case rest =>
          clear HC8
          try clear c1
          try clear c2
          try clear p2
          try clear q2
          try clear hx2
          try clear qi2
          try clear c3
          try clear c5
          try clear c5b0
          try clear c5b1
          try clear c6
          try clear c6b0
          try clear c6b1
          try clear p6
          try clear c16
          try clear hcz14_0
          try clear hcz14_1
          try clear hcz18_0
          try clear hcz18_1
          try clear hfz14_0
          try clear hfz14_1
          try clear hfz18_0
          try clear hfz18_1
          try clear hx203_0
          try clear hx204_0
          try clear p203
          try clear p204
          try clear q203
          try clear q204
          obtain ⟨kq, x47_7, rfl, HA, HJ7, HO_3, HO_213000, HO_213001, BK212, HB⟩ := hcut
          cases kq with
          | zero => exact absurd HA.out (by simp [laws_FnTurns.j0])
          | succ kj7 =>
            have H := HA.out
            clear HA
            simp only [laws_FnTurns.j0] at H
            by_cases c20 : x47_7 = true
            · subst c20
              have H1 : (some false) = some r := by rw [if_pos rfl] at H; exact H
              clear H
              have H := H1
              clear H1
              exact absurd (Option.some.inj H) (by rw [hr_]; decide)
            · replace c20 := Bool.eq_false_iff.mpr c20
              subst c20
              have H1 : (laws_FnTurns.l0 kj7 t200 (wrap64 (4 + (Int.tmod (rd t200 0) 20))) (wrap64 (1 + (Int.tmod (rd t200 1) 2))) (([] : List Int)) 0 t205 t208) = some r := by rw [if_neg (show ¬ (false = true) by decide)] at H; exact H
              clear H
              have H := H1
              clear H1
              obtain ⟨y214, hy214⟩ : ∃ y_ : List Int, y_ = (([] : List Int)) := ⟨_, rfl⟩
              replace H : (laws_FnTurns.l0 kj7 t200 (wrap64 (4 + (Int.tmod (rd t200 0) 20))) (wrap64 (1 + (Int.tmod (rd t200 1) 2))) y214 0 t205 t208) = some r := by first | (rw [hy214]; with_reducible exact H) | (have H2_ := (Option.bind_some _ _).symm.trans H; rw [hy214]; with_reducible exact H2_) | (have H2_ := (Option.bind_some _ _).symm.trans H; with_reducible exact H2_) | with_reducible exact H | (rw [hy214]; exact H) | exact H
              have Ny214 := Aside0.mk hy214
              clear hy214
              have H' := Aside0.mk H
              clear H
              go_wp2_with (first | ((with_reducible refine gate_dst (N := 48) rfl ?_); (try (refine gate_guard (by rfl) ?_; dsimp only)); refine Kd.R_lit (Kd.int .i64) _ 3 ?hg (N := 48) ?hd (xs := ([] : List Int)) (inner := []) (ok := fun _ => True) (okp := fun _ => True) ?hr ?hp (fun _ hk => hk) trivial (Below.refl _ _) (Nat.le_refl _) (by simp) ?_; (case hd => rfl); (case hg => rfl); (case hr => first | (go_simp; done) | (go_simp; rfl)); (case hp => exact (Reps.none _ _)); intro v215 w21 ho22 hb hg_ hnew_; clear hg_ hnew_; (first | rw [← Ny214.out] at ho22 | (simp only [Int.reduceToNat] at ho22; rw [← Ny214.out] at ho22)); have n0_ := Aside0.mk (Kd.R_elder' (by (with_reducible repeat (first | apply Kd.R_alloc | apply Kd.R_drewN | apply Kd.R_drew)); exact HO_3.out) (Kd.R_base ho22) hb); have n1_ := Aside0.mk (Kd.S_elder' (by (with_reducible repeat (first | apply Kd.S_alloc | apply Kd.S_drewN | apply Kd.S_drew)); exact HO_213000.out) (Kd.R_base ho22) hb); have n2_ := Aside0.mk (Kd.S_elder' (by (with_reducible repeat (first | apply Kd.S_alloc | apply Kd.S_drewN | apply Kd.S_drew)); exact HO_213001.out) (Kd.R_base ho22) hb); have n3_ := Aside0.mk (Kd.R_lower (Kd.R_new' ho22 (Kd.R_lt (by (with_reducible repeat (first | apply Kd.R_alloc | apply Kd.R_drewN | apply Kd.R_drew)); exact HO_3.out))) (below_size (by repeat (first | (with_reducible first | exact HB.out | apply below_alloc | apply pw_below_drewN | apply below_drew1 | refine below_set ?_ GE212.out) | exact HB.out)))); have n4_ := Aside0.mk (blk_below (g := gb212) (o := .cells #[.slice Ao13 t205.length co13, .slice Ao15 t208.length co15] 24 (0, 0)) (by (with_reducible repeat (first | refine blk_drewN ?_ _ | refine blk_drew ?_ | refine blk_alloc ?_ _)); exact BK212.out) hb); have n5_ := Aside0.mk (below_step (by repeat (first | (with_reducible first | exact HB.out | apply below_alloc | apply pw_below_drewN | apply below_drew1 | refine below_set ?_ GE212.out) | exact HB.out)) hb); clear HO_3; clear HO_213000; clear HO_213001; clear BK212; clear HB; have HO_3 := n0_; have HO_213000 := n1_; have HO_213001 := n2_; have HO216 := n3_; have BK212 := n4_; have HB := n5_; clear n0_ n1_ n2_ n3_ n4_ n5_; clear hb ho22))
              go_loopg [8, 9] kj7 (fun kq v8 v9 w' => ∃ (x8_2 : List Int) (x9_2 : Int), v9 = .int .i64 x9_2 ∧ Aside0 (laws_FnTurns.l0 kq t200 (wrap64 (4 + (Int.tmod (rd t200 0) 20))) (wrap64 (1 + (Int.tmod (rd t200 1) 2))) x8_2 x9_2 t205 t208 = some r) ∧ Aside0 (kq ≤ kj7) ∧ Aside0 (Kd.R (Kd.int .i64) 3 w' w.heap.size (fun k_ => some k_ ≠ (v8 : Value).ownBlock) (.slice (some ad203) t200.length co10) t200) ∧ Aside0 (Kd.R (Kd.int .i64) 3 w' w.heap.size (fun k_ => some k_ ≠ ((.slice (some ad203) t200.length co10) : Value).ownBlock) v8 x8_2) ∧ Aside0 (Kd.S (Kd.slice 3 (Kd.int .i64)) 32 w' w.heap.size (fun k_ => some k_ ≠ ((.slice (some ad203) t200.length co10) : Value).ownBlock ∧ some k_ ≠ (v8 : Value).ownBlock ∧ some k_ ≠ ((.slice Ao15 t208.length co15) : Value).ownBlock) (.slice Ao13 t205.length co13) t205) ∧ Aside0 (Kd.S (Kd.slice 3 (Kd.int .i64)) 32 w' w.heap.size (fun k_ => some k_ ≠ ((.slice (some ad203) t200.length co10) : Value).ownBlock ∧ some k_ ≠ (v8 : Value).ownBlock ∧ some k_ ≠ ((.slice Ao13 t205.length co13) : Value).ownBlock) (.slice Ao15 t208.length co15) t208) ∧ Aside0 (w'.heap[gb212]? = some (.cells #[(.slice Ao13 t205.length co13), (.slice Ao15 t208.length co15)] 24 (0, 0))) ∧ Aside0 (Below w.heap.size w w'))
              case atStart => exact ⟨(y214), (0), (by first | rfl | (simp; done) | (simp [*]; done)), H', ⟨Nat.le_refl _⟩, ⟨by (with_reducible repeat (first | apply Kd.R_alloc | apply Kd.R_drewN | apply Kd.R_drew)); exact Kd.R_mono HO_3.out (fun _ hk => hk.2)⟩, ⟨by (with_reducible repeat (first | apply Kd.R_alloc | apply Kd.R_drewN | apply Kd.R_drew)); exact Kd.R_mono HO216.out (fun _ hk => hk.2)⟩, ⟨by (with_reducible repeat (first | apply Kd.S_alloc | apply Kd.S_drewN | apply Kd.S_drew)); exact Kd.S_mono HO_213000.out (fun _ hk => ⟨hk.1.1, ⟨hk.2, hk.1.2⟩⟩)⟩, ⟨by (with_reducible repeat (first | apply Kd.S_alloc | apply Kd.S_drewN | apply Kd.S_drew)); exact Kd.S_mono HO_213001.out (fun _ hk => ⟨hk.1.1, ⟨hk.2, hk.1.2⟩⟩)⟩, ⟨by (with_reducible repeat (first | refine blk_drewN ?_ _ | refine blk_drew ?_ | refine blk_alloc ?_ _)); exact BK212.out⟩, ⟨by repeat (first | (with_reducible first | exact HB.out | apply below_alloc | apply pw_below_drewN | apply below_drew1 | refine below_set ?_ GE212.out) | exact HB.out)⟩⟩
              case round =>
                clear H'
                try clear c1
                try clear c2
                try clear p2
                try clear q2
                try clear hx2
                try clear qi2
                try clear c3
                try clear c5
                try clear c5b0
                try clear c5b1
                try clear c6
                try clear c6b0
                try clear c6b1
                try clear p6
                try clear c16
                try clear c20
                try clear p20
                try clear q20
                try clear hx20
                try clear qi20
                try clear hcz14_0
                try clear hcz14_1
                try clear hcz18_0
                try clear hcz18_1
                try clear hfz14_0
                try clear hfz14_1
                try clear hfz18_0
                try clear hfz18_1
                try clear hx203_0
                try clear hx204_0
                try clear p2
                try clear p203
                try clear p204
                try clear p6
                try clear q2
                try clear q203
                try clear q204
                obtain ⟨x8_2, x9_2, rfl, HA, HK2, HO_3, HO_8, HO_213000, HO_213001, BK212, HB⟩ := hrel
                cases gk with
                | zero => exact absurd HA.out (by simp [laws_FnTurns.l0])
                | succ k2 =>
                  have H := HA.out
                  clear HA
                  simp only [laws_FnTurns.l0] at H
                  by_cases c23 : x9_2 < (wrap64 (4 * (wrap64 (1 + (Int.tmod (rd t200 1) 2)))))
                  · rw [if_pos c23] at H
                    have c23b0 : decide (x9_2 < (wrap64 (4 * (wrap64 (1 + (Int.tmod (rd t200 1) 2)))))) = true := decide_eq_true c23
                    clear c23
                    obtain ⟨ji24, hji24⟩ : ∃ j_ : Int, (Int.tmod x9_2 12) = j_ := ⟨_, rfl⟩
                    replace H : (if 0 ≤ (ji24) then (if (ji24) < (t200.length : Int) then (if x8_2.length < 17592186044416 then (laws_FnTurns.l0 k2 t200 (wrap64 (4 + (Int.tmod (rd t200 0) 20))) (wrap64 (1 + (Int.tmod (rd t200 1) 2))) (x8_2 ++ [wrap64 ((Int.tmod (rd t200 (ji24)) 255) - 127)]) (wrap64 (x9_2 + 1)) t205 t208) else (none)) else (none)) else (none)) = some r := by first | (rw [hji24] at H; exact H) | (simp only [hji24] at H ⊢; exact H)
                    by_cases c25 : 0 ≤ (ji24)
                    · rw [if_pos c25] at H
                      have c25b0 : decide (0 ≤ (ji24)) = true := decide_eq_true c25
                      clear c25
                      by_cases c26 : (ji24) < (t200.length : Int)
                      · rw [if_pos c26] at H
                        have c26b0 : decide ((ji24) < (t200.length : Int)) = true := decide_eq_true c26
                        clear c26
                        by_cases c27 : x8_2.length < 17592186044416
                        · rw [if_pos c27] at H
                          have LMc27 := Aside0.mk c27
                          clear c27
                          obtain ⟨y218, hy218⟩ : ∃ y_ : List Int, y_ = (x8_2 ++ [wrap64 ((Int.tmod (rd t200 (ji24)) 255) - 127)]) := ⟨_, rfl⟩
                          replace H : (laws_FnTurns.l0 k2 t200 (wrap64 (4 + (Int.tmod (rd t200 0) 20))) (wrap64 (1 + (Int.tmod (rd t200 1) 2))) y218 (wrap64 (x9_2 + 1)) t205 t208) = some r := by first | (rw [hy218]; with_reducible exact H) | (have H2_ := (Option.bind_some _ _).symm.trans H; rw [hy218]; with_reducible exact H2_) | (have H2_ := (Option.bind_some _ _).symm.trans H; with_reducible exact H2_) | with_reducible exact H | (rw [hy218]; exact H) | exact H
                          have Ny218 := Aside0.mk hy218
                          clear hy218
                          have H' := Aside0.mk H
                          clear H
                          have p217 : 0 ≤ ((ji24) : Int) := of_decide_eq_true (by first | (with_reducible assumption) | assumption)
                          have q217 : (ji24) < (t200.length : Int) := of_decide_eq_true (by first | (with_reducible assumption) | assumption)
                          obtain ⟨ad217, e217, hx217_0⟩ := Kd.at_int (Kd.R_reads' HO_3.out).2.2 (ji24) p217 q217
                          obtain rfl : ad203 = ad217 := (by injection e217)
                          replace p217 := eq_true p217
                          replace q217 := eq_true q217
                          go_wp2_with (first | ((with_reducible refine gate_builtin (b := .append) (xs := #[.tmp 55, .tmp 63]) rfl ?_); (try (refine gate_guard (by rfl) ?_; dsimp only)); at_builtin; refine Kd.R_append (Kd.int .i64) (w0 := w) w.heap.size rfl (.tmp 55) (.tmp 63) 32 3 (.int .i64 0) 8 rfl Try.underlying32 info3 rfl (by decide) (by omega) u8 x8_2 (wrap64 ((Int.tmod (rd t200 (ji24)) 255) - 127)) [.int .i64 (wrap64 ((Int.tmod (rd t200 (ji24)) 255) - 127))] (fun k_ => some k_ ≠ (.slice (some ad203) t200.length co10 : Value).ownBlock) (fun _ => False) rfl rfl ?aP (fun _ hk => hk.elim) ?aF ?aO ?aB ?aS ?aL ?_; (case aP => exact rfl); (case aB => exact (by repeat (first | (with_reducible first | exact HB.out | apply below_alloc | apply pw_below_drewN | apply below_drew1 | refine below_set ?_ GE212.out) | exact HB.out))); (case aF => exact (fun k_ hk => Kd.fresh' (Kd.R_lt (by (with_reducible repeat (first | apply Kd.R_alloc | apply Kd.R_drewN | apply Kd.R_drew)); exact HO_3.out)) k_ hk)); (case aO => exact (by (with_reducible repeat (first | apply Kd.R_alloc | apply Kd.R_drewN | apply Kd.R_drew)); exact HO_8.out)); (case aS => exact (below_size (by repeat (first | (with_reducible first | exact HB.out | apply below_alloc | apply pw_below_drewN | apply below_drew1 | refine below_set ?_ GE212.out) | exact HB.out)))); (case aL => have := LMc27.out; omega); intro v219 w28 ho hb hg hat; rw [← Ny218.out] at ho; have n0_ := Aside0.mk (Kd.R_after (ok := (fun _ => True)) (by (with_reducible repeat (first | apply Kd.R_alloc | apply Kd.R_drewN | apply Kd.R_drew)); exact Kd.R_mono HO_3.out (fun _ hk => ⟨trivial, hk⟩)) hg hat); have n1_ := Aside0.mk (Kd.S_after (ok := (fun k_ => some k_ ≠ (.slice (some ad203) t200.length co10 : Value).ownBlock ∧ some k_ ≠ (.slice Ao15 t208.length co15 : Value).ownBlock)) (by (with_reducible repeat (first | apply Kd.S_alloc | apply Kd.S_drewN | apply Kd.S_drew)); exact Kd.S_mono HO_213000.out (fun _ hk => ⟨⟨hk.1, hk.2.2⟩, hk.2.1⟩)) hg hat); have n2_ := Aside0.mk (Kd.S_after (ok := (fun k_ => some k_ ≠ (.slice (some ad203) t200.length co10 : Value).ownBlock ∧ some k_ ≠ (.slice Ao13 t205.length co13 : Value).ownBlock)) (by (with_reducible repeat (first | apply Kd.S_alloc | apply Kd.S_drewN | apply Kd.S_drew)); exact Kd.S_mono HO_213001.out (fun _ hk => ⟨⟨hk.1, hk.2.2⟩, hk.2.1⟩)) hg hat); have n3_ := Aside0.mk (blk_grown (g := gb212) (o := .cells #[.slice Ao13 t205.length co13, .slice Ao15 t208.length co15] 24 (0, 0)) (by (with_reducible repeat (first | refine blk_drewN ?_ _ | refine blk_drew ?_ | refine blk_alloc ?_ _)); exact BK212.out) hg (Kd.R_ne HO_8.out BK212.out (by decide))); have n4_ := Aside0.mk (hb); have n5_ := Aside0.mk (ho); clear HO_3; clear HO_213000; clear HO_213001; clear BK212; clear HB; clear HO_8; have HO_3 := n0_; have HO_213000 := n1_; have HO_213001 := n2_; have BK212 := n3_; have HB := n4_; have HO220 := n5_; clear n0_ n1_ n2_ n3_ n4_ n5_; clear ho hb hg hat))
                          go_roundg k2
                          case measure => have := HJ7.out; have := HK2.out; omega
                          case rel => exact ⟨(y218), (wrap64 (x9_2 + 1)), (by first | rfl | (simp; done) | (simp [*]; done)), H', ⟨by have := HJ7.out; have := HK2.out; omega⟩, ⟨by (with_reducible repeat (first | apply Kd.R_alloc | apply Kd.R_drewN | apply Kd.R_drew)); exact Kd.R_mono HO_3.out (fun _ hk => hk.2)⟩, ⟨by (with_reducible repeat (first | apply Kd.R_alloc | apply Kd.R_drewN | apply Kd.R_drew)); exact HO220.out⟩, ⟨by (with_reducible repeat (first | apply Kd.S_alloc | apply Kd.S_drewN | apply Kd.S_drew)); exact Kd.S_mono HO_213000.out (fun _ hk => ⟨hk.1.1, ⟨hk.2, hk.1.2⟩⟩)⟩, ⟨by (with_reducible repeat (first | apply Kd.S_alloc | apply Kd.S_drewN | apply Kd.S_drew)); exact Kd.S_mono HO_213001.out (fun _ hk => ⟨hk.1.1, ⟨hk.2, hk.1.2⟩⟩)⟩, ⟨by (with_reducible repeat (first | refine blk_drewN ?_ _ | refine blk_drew ?_ | refine blk_alloc ?_ _)); exact BK212.out⟩, ⟨by repeat (first | (with_reducible first | exact HB.out | apply below_alloc | apply pw_below_drewN | apply below_drew1 | refine below_set ?_ GE212.out) | exact HB.out)⟩⟩
                        · rw [if_neg c27] at H
                          exact absurd H (by simp)
                      · rw [if_neg c26] at H
                        exact absurd H (by simp)
                    · rw [if_neg c25] at H
                      exact absurd H (by simp)
                  · rw [if_neg c23] at H
                    have c23b0 : decide (x9_2 < (wrap64 (4 * (wrap64 (1 + (Int.tmod (rd t200 1) 2)))))) = false := decide_eq_false c23
                    clear c23
                    by_cases c29 : 2 < (t200.length : Int)
                    · rw [if_pos c29] at H
                      have c29b0 : decide (2 < (t200.length : Int)) = true := decide_eq_true c29
                      have c29b1 : decide (2 < t200.length) = true := decide_eq_true (by omega)
                      clear c29
                      by_cases c30 : (wrap64 (4 + (Int.tmod (rd t200 0) 20))) = 0
                      · rw [if_pos c30] at H
                        exact absurd H (by simp)
                      · rw [if_neg c30] at H
                        have c30b0 : ((wrap64 (4 + (Int.tmod (rd t200 0) 20))) == 0) = false := beq_eq_false_iff_ne.mpr c30
                        have c30b1 : ((wrap64 (4 + (Int.tmod (rd t200 0) 20))) != 0) = true := bne_iff_ne.mpr c30
                        replace H := Option.bind_eq_some_iff.mp H
                        obtain ⟨⟨t222, t225⟩, A310, H⟩ := H
                        replace H : (if 0 ≤ (wrap64 (2 * (wrap64 (1 + (Int.tmod (rd t200 1) 2))))) then (if (wrap64 (2 * (wrap64 (1 + (Int.tmod (rd t200 1) 2))))) ≤ (x8_2.length : Int) then ((impl_TurnAll.f k2 t205 t208 (Int.tmod (rd t200 2) (wrap64 (4 + (Int.tmod (rd t200 0) 20)))) (wrap64 (2 * (wrap64 (1 + (Int.tmod (rd t200 1) 2))))) (x8_2.take ((wrap64 (2 * (wrap64 (1 + (Int.tmod (rd t200 1) 2))))) : Int).toNat)).bind fun bt230 => ((impl_TurnAll.f k2 t205 t208 (Int.tmod (rd t200 2) (wrap64 (4 + (Int.tmod (rd t200 0) 20)))) (wrap64 (2 * (wrap64 (1 + (Int.tmod (rd t200 1) 2))))) (x8_2.drop ((wrap64 (2 * (wrap64 (1 + (Int.tmod (rd t200 1) 2))))) : Int).toNat)).bind fun bt238 => ((impl_TurnAll.f k2 t205 t208 (wrap64 (4 + (Int.tmod (rd t200 0) 20))) (wrap64 (2 * (wrap64 (1 + (Int.tmod (rd t200 1) 2))))) x8_2).bind fun bt242 => (if t225 = true then (if bt230.2 = true then (if bt238.2 = true then (if bt242.2 = true then (some false) else ((laws_byteish.f k2 t222).bind fun t246 => (if t246 = true then (if (t222.length : Int) = (x8_2.length : Int) then (if (wrap64 (2 * (wrap64 (1 + (Int.tmod (rd t200 1) 2))))) ≤ (t222.length : Int) then ((laws_sameInts.f k2 (t222.take ((wrap64 (2 * (wrap64 (1 + (Int.tmod (rd t200 1) 2))))) : Int).toNat) bt230.1).bind fun t251 => (if t251 = true then ((laws_sameInts.f k2 (t222.drop ((wrap64 (2 * (wrap64 (1 + (Int.tmod (rd t200 1) 2))))) : Int).toNat) bt238.1).bind fun t256 => (some t256)) else (some false))) else (none)) else (some false)) else (some false)))) else (some false)) else (some false)) else (some false))))) else (none)) else (none)) = some r := H
                        have A31 := Aside0.mk A310
                        clear A310
                        obtain ⟨ji32, hji32⟩ : ∃ j_ : Int, (wrap64 (2 * (wrap64 (1 + (Int.tmod (rd t200 1) 2))))) = j_ := ⟨_, rfl⟩
                        replace H : (if 0 ≤ (ji32) then (if (ji32) ≤ (x8_2.length : Int) then ((impl_TurnAll.f k2 t205 t208 (Int.tmod (rd t200 2) (wrap64 (4 + (Int.tmod (rd t200 0) 20)))) (ji32) (x8_2.take ((ji32) : Int).toNat)).bind fun bt230 => ((impl_TurnAll.f k2 t205 t208 (Int.tmod (rd t200 2) (wrap64 (4 + (Int.tmod (rd t200 0) 20)))) (ji32) (x8_2.drop ((ji32) : Int).toNat)).bind fun bt238 => ((impl_TurnAll.f k2 t205 t208 (wrap64 (4 + (Int.tmod (rd t200 0) 20))) (ji32) x8_2).bind fun bt242 => (if t225 = true then (if bt230.2 = true then (if bt238.2 = true then (if bt242.2 = true then (some false) else ((laws_byteish.f k2 t222).bind fun t246 => (if t246 = true then (if (t222.length : Int) = (x8_2.length : Int) then (if (ji32) ≤ (t222.length : Int) then ((laws_sameInts.f k2 (t222.take ((ji32) : Int).toNat) bt230.1).bind fun t251 => (if t251 = true then ((laws_sameInts.f k2 (t222.drop ((ji32) : Int).toNat) bt238.1).bind fun t256 => (some t256)) else (some false))) else (none)) else (some false)) else (some false)))) else (some false)) else (some false)) else (some false))))) else (none)) else (none)) = some r := by first | (rw [hji32] at H; exact H) | (simp only [hji32] at H ⊢; exact H)
                        (try rw [hji32] at A31)
                        have hji32w : (IntKind.i64.wrap (2 * (wrap64 (1 + (Int.tmod (rd t200 1) 2))))) = ji32 := (i64_w _).trans hji32
                        by_cases c33 : 0 ≤ (ji32)
                        · rw [if_pos c33] at H
                          have c33b0 := eq_true c33
                          have c33b1 : decide (0 ≤ (ji32)) = true := decide_eq_true c33
                          clear c33
                          by_cases c34 : (ji32) ≤ (x8_2.length : Int)
                          · rw [if_pos c34] at H
                            have c34b0 := eq_true c34
                            have c34b1 : decide ((ji32) ≤ (x8_2.length : Int)) = true := decide_eq_true c34
                            clear c34
                            obtain ⟨y226, hy226⟩ : ∃ y_ : List Int, y_ = (x8_2.take ((ji32) : Int).toNat) := ⟨_, rfl⟩
                            replace H : ((impl_TurnAll.f k2 t205 t208 (Int.tmod (rd t200 2) (wrap64 (4 + (Int.tmod (rd t200 0) 20)))) (ji32) y226).bind fun bt230 => ((impl_TurnAll.f k2 t205 t208 (Int.tmod (rd t200 2) (wrap64 (4 + (Int.tmod (rd t200 0) 20)))) (ji32) (x8_2.drop ((ji32) : Int).toNat)).bind fun bt238 => ((impl_TurnAll.f k2 t205 t208 (wrap64 (4 + (Int.tmod (rd t200 0) 20))) (ji32) x8_2).bind fun bt242 => (if t225 = true then (if bt230.2 = true then (if bt238.2 = true then (if bt242.2 = true then (some false) else ((laws_byteish.f k2 t222).bind fun t246 => (if t246 = true then (if (t222.length : Int) = (x8_2.length : Int) then (if (ji32) ≤ (t222.length : Int) then ((laws_sameInts.f k2 (t222.take ((ji32) : Int).toNat) bt230.1).bind fun t251 => (if t251 = true then ((laws_sameInts.f k2 (t222.drop ((ji32) : Int).toNat) bt238.1).bind fun t256 => (some t256)) else (some false))) else (none)) else (some false)) else (some false)))) else (some false)) else (some false)) else (some false))))) = some r := by first | (rw [hy226]; with_reducible exact H) | (have H2_ := (Option.bind_some _ _).symm.trans H; rw [hy226]; with_reducible exact H2_) | (have H2_ := (Option.bind_some _ _).symm.trans H; with_reducible exact H2_) | with_reducible exact H | (rw [hy226]; exact H) | exact H
                            have Ny226 := Aside0.mk hy226
                            clear hy226
                            replace H := Option.bind_eq_some_iff.mp H
                            obtain ⟨⟨t230, t233⟩, A350, H⟩ := H
                            replace H : ((impl_TurnAll.f k2 t205 t208 (Int.tmod (rd t200 2) (wrap64 (4 + (Int.tmod (rd t200 0) 20)))) (ji32) (x8_2.drop ((ji32) : Int).toNat)).bind fun bt238 => ((impl_TurnAll.f k2 t205 t208 (wrap64 (4 + (Int.tmod (rd t200 0) 20))) (ji32) x8_2).bind fun bt242 => (if t225 = true then (if t233 = true then (if bt238.2 = true then (if bt242.2 = true then (some false) else ((laws_byteish.f k2 t222).bind fun t246 => (if t246 = true then (if (t222.length : Int) = (x8_2.length : Int) then (if (ji32) ≤ (t222.length : Int) then ((laws_sameInts.f k2 (t222.take ((ji32) : Int).toNat) t230).bind fun t251 => (if t251 = true then ((laws_sameInts.f k2 (t222.drop ((ji32) : Int).toNat) bt238.1).bind fun t256 => (some t256)) else (some false))) else (none)) else (some false)) else (some false)))) else (some false)) else (some false)) else (some false)))) = some r := H
                            have A35 := Aside0.mk A350
                            clear A350
                            have c36b0 := eq_true (of_decide_eq_true (by first | (with_reducible assumption) | assumption) : 0 ≤ (ji32))
                            have c37b0 := eq_true (of_decide_eq_true (by first | (with_reducible assumption) | assumption) : (ji32) ≤ (x8_2.length : Int))
                            obtain ⟨y234, hy234⟩ : ∃ y_ : List Int, y_ = (x8_2.drop ((ji32) : Int).toNat) := ⟨_, rfl⟩
                            replace H : ((impl_TurnAll.f k2 t205 t208 (Int.tmod (rd t200 2) (wrap64 (4 + (Int.tmod (rd t200 0) 20)))) (ji32) y234).bind fun bt238 => ((impl_TurnAll.f k2 t205 t208 (wrap64 (4 + (Int.tmod (rd t200 0) 20))) (ji32) x8_2).bind fun bt242 => (if t225 = true then (if t233 = true then (if bt238.2 = true then (if bt242.2 = true then (some false) else ((laws_byteish.f k2 t222).bind fun t246 => (if t246 = true then (if (t222.length : Int) = (x8_2.length : Int) then (if (ji32) ≤ (t222.length : Int) then ((laws_sameInts.f k2 (t222.take ((ji32) : Int).toNat) t230).bind fun t251 => (if t251 = true then ((laws_sameInts.f k2 (t222.drop ((ji32) : Int).toNat) bt238.1).bind fun t256 => (some t256)) else (some false))) else (none)) else (some false)) else (some false)))) else (some false)) else (some false)) else (some false)))) = some r := by first | (rw [hy234]; with_reducible exact H) | (have H2_ := (Option.bind_some _ _).symm.trans H; rw [hy234]; with_reducible exact H2_) | (have H2_ := (Option.bind_some _ _).symm.trans H; with_reducible exact H2_) | with_reducible exact H | (rw [hy234]; exact H) | exact H
                            have Ny234 := Aside0.mk hy234
                            clear hy234
                            replace H := Option.bind_eq_some_iff.mp H
                            obtain ⟨⟨t238, t241⟩, A380, H⟩ := H
                            replace H : ((impl_TurnAll.f k2 t205 t208 (wrap64 (4 + (Int.tmod (rd t200 0) 20))) (ji32) x8_2).bind fun bt242 => (if t225 = true then (if t233 = true then (if t241 = true then (if bt242.2 = true then (some false) else ((laws_byteish.f k2 t222).bind fun t246 => (if t246 = true then (if (t222.length : Int) = (x8_2.length : Int) then (if (ji32) ≤ (t222.length : Int) then ((laws_sameInts.f k2 (t222.take ((ji32) : Int).toNat) t230).bind fun t251 => (if t251 = true then ((laws_sameInts.f k2 (t222.drop ((ji32) : Int).toNat) t238).bind fun t256 => (some t256)) else (some false))) else (none)) else (some false)) else (some false)))) else (some false)) else (some false)) else (some false))) = some r := H
                            have A38 := Aside0.mk A380
                            clear A380
                            replace H := Option.bind_eq_some_iff.mp H
                            obtain ⟨⟨t242, t245⟩, A390, H⟩ := H
                            replace H : (if t225 = true then (if t233 = true then (if t241 = true then (if t245 = true then (some false) else ((laws_byteish.f k2 t222).bind fun t246 => (if t246 = true then (if (t222.length : Int) = (x8_2.length : Int) then (if (ji32) ≤ (t222.length : Int) then ((laws_sameInts.f k2 (t222.take ((ji32) : Int).toNat) t230).bind fun t251 => (if t251 = true then ((laws_sameInts.f k2 (t222.drop ((ji32) : Int).toNat) t238).bind fun t256 => (some t256)) else (some false))) else (none)) else (some false)) else (some false)))) else (some false)) else (some false)) else (some false)) = some r := H
                            have A39 := Aside0.mk A390
                            clear A390
                            by_cases c40 : t225 = true
                            · subst c40
                              have H1 : (if t233 = true then (if t241 = true then (if t245 = true then (some false) else ((laws_byteish.f k2 t222).bind fun t246 => (if t246 = true then (if (t222.length : Int) = (x8_2.length : Int) then (if (ji32) ≤ (t222.length : Int) then ((laws_sameInts.f k2 (t222.take ((ji32) : Int).toNat) t230).bind fun t251 => (if t251 = true then ((laws_sameInts.f k2 (t222.drop ((ji32) : Int).toNat) t238).bind fun t256 => (some t256)) else (some false))) else (none)) else (some false)) else (some false)))) else (some false)) else (some false)) = some r := by rw [if_pos rfl] at H; exact H
                              clear H
                              have H := H1
                              clear H1
                              by_cases c41 : t233 = true
                              · subst c41
                                have H1 : (if t241 = true then (if t245 = true then (some false) else ((laws_byteish.f k2 t222).bind fun t246 => (if t246 = true then (if (t222.length : Int) = (x8_2.length : Int) then (if (ji32) ≤ (t222.length : Int) then ((laws_sameInts.f k2 (t222.take ((ji32) : Int).toNat) t230).bind fun t251 => (if t251 = true then ((laws_sameInts.f k2 (t222.drop ((ji32) : Int).toNat) t238).bind fun t256 => (some t256)) else (some false))) else (none)) else (some false)) else (some false)))) else (some false)) = some r := by rw [if_pos rfl] at H; exact H
                                clear H
                                have H := H1
                                clear H1
                                by_cases c42 : t241 = true
                                · subst c42
                                  have H1 : (if t245 = true then (some false) else ((laws_byteish.f k2 t222).bind fun t246 => (if t246 = true then (if (t222.length : Int) = (x8_2.length : Int) then (if (ji32) ≤ (t222.length : Int) then ((laws_sameInts.f k2 (t222.take ((ji32) : Int).toNat) t230).bind fun t251 => (if t251 = true then ((laws_sameInts.f k2 (t222.drop ((ji32) : Int).toNat) t238).bind fun t256 => (some t256)) else (some false))) else (none)) else (some false)) else (some false)))) = some r := by rw [if_pos rfl] at H; exact H
                                  clear H
                                  have H := H1
                                  clear H1
                                  by_cases c43 : t245 = true
                                  · subst c43
                                    have H1 : (some false) = some r := by rw [if_pos rfl] at H; exact H
                                    clear H
                                    have H := H1
                                    clear H1
                                    exact absurd (Option.some.inj H) (by rw [hr_]; decide)
                                  · replace c43 := Bool.eq_false_iff.mpr c43
                                    subst c43
                                    have H1 : ((laws_byteish.f k2 t222).bind fun t246 => (if t246 = true then (if (t222.length : Int) = (x8_2.length : Int) then (if (ji32) ≤ (t222.length : Int) then ((laws_sameInts.f k2 (t222.take ((ji32) : Int).toNat) t230).bind fun t251 => (if t251 = true then ((laws_sameInts.f k2 (t222.drop ((ji32) : Int).toNat) t238).bind fun t256 => (some t256)) else (some false))) else (none)) else (some false)) else (some false))) = some r := by rw [if_neg (show ¬ (false = true) by decide)] at H; exact H
                                    clear H
                                    have H := H1
                                    clear H1
                                    replace H := Option.bind_eq_some_iff.mp H
                                    obtain ⟨t246, A440, H⟩ := H
                                    replace H : (if t246 = true then (if (t222.length : Int) = (x8_2.length : Int) then (if (ji32) ≤ (t222.length : Int) then ((laws_sameInts.f k2 (t222.take ((ji32) : Int).toNat) t230).bind fun t251 => (if t251 = true then ((laws_sameInts.f k2 (t222.drop ((ji32) : Int).toNat) t238).bind fun t256 => (some t256)) else (some false))) else (none)) else (some false)) else (some false)) = some r := H
                                    have A44 := Aside0.mk A440
                                    clear A440
                                    by_cases c45 : t246 = true
                                    · subst c45
                                      have H1 : (if (t222.length : Int) = (x8_2.length : Int) then (if (ji32) ≤ (t222.length : Int) then ((laws_sameInts.f k2 (t222.take ((ji32) : Int).toNat) t230).bind fun t251 => (if t251 = true then ((laws_sameInts.f k2 (t222.drop ((ji32) : Int).toNat) t238).bind fun t256 => (some t256)) else (some false))) else (none)) else (some false)) = some r := by rw [if_pos rfl] at H; exact H
                                      clear H
                                      have H := H1
                                      clear H1
                                      by_cases c46 : (t222.length : Int) = (x8_2.length : Int)
                                      · rw [if_pos c46] at H
                                        have c46b0 : ((t222.length : Int) == (x8_2.length : Int)) = true := beq_iff_eq.mpr c46
                                        have c46b1 : ((t222.length : Int) != (x8_2.length : Int)) = false := bne_eq_false_iff_eq.mpr c46
                                        have c46b2 : (t222.length == x8_2.length) = true := by first | simpa using c46 | (simp at c46 ⊢; omega)
                                        clear c46
                                        have c47b0 := eq_true (of_decide_eq_true (by first | (with_reducible assumption) | assumption) : 0 ≤ (ji32))
                                        by_cases c48 : (ji32) ≤ (t222.length : Int)
                                        · rw [if_pos c48] at H
                                          have c48b0 := eq_true c48
                                          have c48b1 : decide ((ji32) ≤ (t222.length : Int)) = true := decide_eq_true c48
                                          clear c48
                                          obtain ⟨y247, hy247⟩ : ∃ y_ : List Int, y_ = (t222.take ((ji32) : Int).toNat) := ⟨_, rfl⟩
                                          replace H : ((laws_sameInts.f k2 y247 t230).bind fun t251 => (if t251 = true then ((laws_sameInts.f k2 (t222.drop ((ji32) : Int).toNat) t238).bind fun t256 => (some t256)) else (some false))) = some r := by first | (rw [hy247]; with_reducible exact H) | (have H2_ := (Option.bind_some _ _).symm.trans H; rw [hy247]; with_reducible exact H2_) | (have H2_ := (Option.bind_some _ _).symm.trans H; with_reducible exact H2_) | with_reducible exact H | (rw [hy247]; exact H) | exact H
                                          have Ny247 := Aside0.mk hy247
                                          clear hy247
                                          replace H := Option.bind_eq_some_iff.mp H
                                          obtain ⟨t251, A490, H⟩ := H
                                          replace H : (if t251 = true then ((laws_sameInts.f k2 (t222.drop ((ji32) : Int).toNat) t238).bind fun t256 => (some t256)) else (some false)) = some r := H
                                          have A49 := Aside0.mk A490
                                          clear A490
                                          by_cases c50 : t251 = true
                                          · subst c50
                                            have H1 : ((laws_sameInts.f k2 (t222.drop ((ji32) : Int).toNat) t238).bind fun t256 => (some t256)) = some r := by rw [if_pos rfl] at H; exact H
                                            clear H
                                            have H := H1
                                            clear H1
                                            have c51b0 := eq_true (of_decide_eq_true (by first | (with_reducible assumption) | assumption) : 0 ≤ (ji32))
                                            have c52b0 := eq_true (of_decide_eq_true (by first | (with_reducible assumption) | assumption) : (ji32) ≤ (t222.length : Int))
                                            obtain ⟨y252, hy252⟩ : ∃ y_ : List Int, y_ = (t222.drop ((ji32) : Int).toNat) := ⟨_, rfl⟩
                                            replace H : ((laws_sameInts.f k2 y252 t238).bind fun t256 => (some t256)) = some r := by first | (rw [hy252]; with_reducible exact H) | (have H2_ := (Option.bind_some _ _).symm.trans H; rw [hy252]; with_reducible exact H2_) | (have H2_ := (Option.bind_some _ _).symm.trans H; with_reducible exact H2_) | with_reducible exact H | (rw [hy252]; exact H) | exact H
                                            have Ny252 := Aside0.mk hy252
                                            clear hy252
                                            replace H := Option.bind_eq_some_iff.mp H
                                            obtain ⟨t256, A530, H⟩ := H
                                            replace H : (some t256) = some r := H
                                            have A53 := Aside0.mk A530
                                            clear A530
                                            obtain rfl := Option.some.inj H
                                            have p221 : 0 ≤ (2 : Int) := (by omega)
                                            have q221 : 2 < (t200.length : Int) := of_decide_eq_true (by first | (with_reducible assumption) | assumption)
                                            obtain ⟨ad221, e221, hx221_0⟩ := Kd.at_int (Kd.R_reads' HO_3.out).2.2 2 p221 q221
                                            obtain rfl : ad203 = ad221 := (by injection e221)
                                            (try simp only [show (2 : Int).toNat = 2 from rfl, Nat.reduceMul, Nat.reduceEqDiff, Go.Addr.add, ↓reduceIte] at hx221_0)
                                            have qi221 : (2 < t200.length) = True := eq_true (by omega)
                                            (try rw [show ((2 : Int)).toNat = 2 from rfl] at hx221_0)
                                            replace p221 := eq_true p221
                                            replace q221 := eq_true q221
                                            have hcz54_0 : wr.cell? ⟨gb212, 0, none⟩ = some (.slice Ao13 t205.length co13) := (blk_cell BK212.out 0).trans rfl
                                            have hcz54_1 : wr.cell? ⟨gb212, 1, none⟩ = some (.slice Ao15 t208.length co15) := (blk_cell BK212.out 1).trans rfl
                                            have hfz54_0 := blk_frozen BK212.out 0
                                            have hfz54_1 := blk_frozen BK212.out 1
                                            obtain ⟨Ao55, co55, eo55⟩ := Kd.R_slice HO_8.out
                                            subst eo55
                                            try go_wp2_with (first | ((with_reducible refine gate_callee (f := 37) rfl ?_); refine goesL_ (some 76) rfl rfl Try.func37 (by kernel_rfl) rfl #[.agg #[.slice Ao13 t205.length co13, .slice Ao15 t208.length co15], .int .i64 (Int.tmod (rd t200 2) (wrap64 (4 + (Int.tmod (rd t200 0) 20)))), .int .i64 ji32, .slice Ao55 x8_2.length co55] rfl (by (try simp only [List.map_toArray, List.map_cons, List.map_nil]); first | done | (simp only [hji32]; rfl) | rfl | (simp only [List.length_drop, List.length_take]; rfl)) ?_; (with_reducible refine (impl_TurnAll.calls k2 _ _ t205 _ _ t208 (Int.tmod (rd t200 2) (wrap64 (4 + (Int.tmod (rd t200 0) 20)))) ji32 _ _ x8_2 t222 true _ ?side1 ?side2 ?side3 ?side4 ?side5 ?side6 A31.out).mono ?_); (case side1 => repeat (first | exact (Kd.S_reads' HO_213000.out).2.2 | (with_reducible refine Kd.C_alloc ?_ _) | (with_reducible refine Kd.C_drewN ?_ _) | (with_reducible refine Kd.C_drew ?_))); (case side2 => exact (Kd.S_reads' HO_213000.out).2.1); (case side3 => repeat (first | exact (Kd.S_reads' HO_213001.out).2.2 | (with_reducible refine Kd.C_alloc ?_ _) | (with_reducible refine Kd.C_drewN ?_ _) | (with_reducible refine Kd.C_drew ?_))); (case side4 => exact (Kd.S_reads' HO_213001.out).2.1); (case side5 => repeat (first | exact (Kd.R_reads' HO_8.out).2.2 | (with_reducible refine Kd.C_alloc ?_ _) | (with_reducible refine Kd.C_drewN ?_ _) | (with_reducible refine Kd.C_drew ?_))); (case side6 => exact (Kd.R_reads' HO_8.out).2.1); rintro e w56 ⟨v223, rfl, ho0, hb⟩; refine ⟨_, rfl, ?_⟩; have n0_ := Aside0.mk (Kd.R_elder' (by (with_reducible repeat (first | apply Kd.R_alloc | apply Kd.R_drewN | apply Kd.R_drew)); exact HO_3.out) (Kd.R_base ho0) hb); have n1_ := Aside0.mk (Kd.R_elder' (by (with_reducible repeat (first | apply Kd.R_alloc | apply Kd.R_drewN | apply Kd.R_drew)); exact HO_8.out) (Kd.R_base ho0) hb); have n2_ := Aside0.mk (Kd.S_elder' (by (with_reducible repeat (first | apply Kd.S_alloc | apply Kd.S_drewN | apply Kd.S_drew)); exact HO_213000.out) (Kd.R_base ho0) hb); have n3_ := Aside0.mk (Kd.S_elder' (by (with_reducible repeat (first | apply Kd.S_alloc | apply Kd.S_drewN | apply Kd.S_drew)); exact HO_213001.out) (Kd.R_base ho0) hb); have n4_ := Aside0.mk (Kd.R_lower (Kd.R_new' (Kd.R_new' ho0 (Kd.R_lt (by (with_reducible repeat (first | apply Kd.R_alloc | apply Kd.R_drewN | apply Kd.R_drew)); exact HO_3.out))) (Kd.R_lt (by (with_reducible repeat (first | apply Kd.R_alloc | apply Kd.R_drewN | apply Kd.R_drew)); exact HO_8.out))) (below_size (by repeat (first | (with_reducible first | exact HB.out | apply below_alloc | apply pw_below_drewN | apply below_drew1 | refine below_set ?_ GE212.out) | exact HB.out)))); have n5_ := Aside0.mk (blk_below (g := gb212) (o := .cells #[.slice Ao13 t205.length co13, .slice Ao15 t208.length co15] 24 (0, 0)) (by (with_reducible repeat (first | refine blk_drewN ?_ _ | refine blk_drew ?_ | refine blk_alloc ?_ _)); exact BK212.out) hb); have n6_ := Aside0.mk (below_step (by repeat (first | (with_reducible first | exact HB.out | apply below_alloc | apply pw_below_drewN | apply below_drew1 | refine below_set ?_ GE212.out) | exact HB.out)) hb); clear HO_3; clear HO_8; clear HO_213000; clear HO_213001; clear BK212; clear HB; have HO_3 := n0_; have HO_8 := n1_; have HO_213000 := n2_; have HO_213001 := n3_; have HO224 := n4_; have BK212 := n5_; have HB := n6_; clear n0_ n1_ n2_ n3_ n4_ n5_ n6_; (try clear hb); (try clear hb2); (try clear hk); (try clear hi); (try clear ho0)))
                                            have n0_ := Aside0.mk (Kd.R_drew HO_3.out)
                                            have n1_ := Aside0.mk (Kd.R_drew HO_8.out)
                                            have n2_ := Aside0.mk (Kd.S_drew HO_213000.out)
                                            have n3_ := Aside0.mk (Kd.S_drew HO_213001.out)
                                            have n4_ := Aside0.mk (Kd.R_drew HO224.out)
                                            have n5_ := Aside0.mk (blk_drew BK212.out)
                                            have n6_ := Aside0.mk (below_drew1 HB.out)
                                            clear HO_3
                                            clear HO_8
                                            clear HO_213000
                                            clear HO_213001
                                            clear HO224
                                            clear BK212
                                            clear HB
                                            have HO_3 := n0_
                                            have HO_8 := n1_
                                            have HO_213000 := n2_
                                            have HO_213001 := n3_
                                            have HO224 := n4_
                                            have BK212 := n5_
                                            have HB := n6_
                                            clear n0_ n1_ n2_ n3_ n4_ n5_ n6_
                                            have q58 : ((ji32) : Int) ≤ ((x8_2.length : Int) : Int) := of_decide_eq_true (by first | (with_reducible assumption) | assumption)
                                            obtain ⟨i058, hi058, _, hsz58, _⟩ := info_parts info3
                                            have hroom58 : x8_2.length ≤ co55 := (Kd.R_reads' HO_8.out).2.1
                                            have hC58 : Kd.C (Kd.int .i64) _ Ao55 x8_2.length x8_2 := (Kd.R_reads' HO_8.out).2.2
                                            have hcut58 := cut_to (P := Try.prog) 32 3 .i64 Try.underlying32 hi058 Ao55 x8_2.length co55 (ji32) (of_decide_eq_true (by first | (with_reducible assumption) | assumption)) q58 hroom58
                                            have hr58 := Kd.C_take (m := ((ji32) : Int).toNat) hC58 (by omega)
                                            have hy58 : y226.length = ((ji32) : Int).toNat := (by rw [Ny226.out, List.length_take]; omega)
                                            rw [← Ny226.out] at hr58
                                            rw [← hy58] at hcut58
                                            have HR229 := Aside0.mk hr58
                                            have HC229 := Aside0.mk (show y226.length ≤ co55 from by omega)
                                            clear hr58 hC58 hroom58 hi058 hsz58
                                            have KY58 := Aside0.mk hy58
                                            clear hy58
                                            have KL58 := Aside0.mk (show ((ji32) : Int).toNat ≤ x8_2.length from by omega)
                                            replace q58 := eq_true q58
                                            refine start_ (n := 14) (S := fun w' => w'.cell? ⟨gb212, 0, none⟩ = some (.slice Ao13 t205.length co13) ∧ w'.cell? ⟨gb212, 1, none⟩ = some (.slice Ao15 t208.length co15)) (ds := []) #[false, false, false, false, false, false, false, false, false, false, false, false, false, false] (by kernel_rfl) rfl rfl ⟨(blk_cell BK212.out 0).trans rfl, (blk_cell BK212.out 1).trans rfl⟩ (fun hHeld => ?_); refine with_tabW laws_FnTurns.tab16 laws_FnTurns.bits16 (fun HT_ HW_ => ?_)
                                            generalize w56.drew = w57 at HO_3 HO_8 HO_213000 HO_213001 HO224 BK212 HB HR229 hHeld ⊢
                                            refine pure_ (i := 1) (N := some 81) (v := ?_) (a' := ?_) #[false, true, false, false, false, false, false, false, false, false, false, false, false, false] rfl rfl (any_of HT_.out (by kernel_rfl)) (fun _ _ _ h => h) (Or.inl ⟨by rfl, ?_⟩) ?_ ?_
                                            rotate_left
                                            · intro w'
                                              go_simp
                                              with_reducible rfl
                                            rotate_left
                                            · simp only [Act.put, List.setIfInBounds_toArray, List.set_cons_zero, List.set_cons_succ, i64_w, i32_w]
                                              rfl
                                            refine pure_ (i := 2) (N := some 82) (v := ?_) (a' := ?_) #[false, true, true, false, false, false, false, false, false, false, false, false, false, false] rfl rfl (any_of HT_.out (by kernel_rfl)) (fun _ _ _ h => h) (Or.inl ⟨by rfl, ?_⟩) ?_ ?_
                                            rotate_left
                                            · intro w'
                                              go_simp
                                              with_reducible rfl
                                            rotate_left
                                            · simp only [Act.put, List.setIfInBounds_toArray, List.set_cons_zero, List.set_cons_succ, i64_w, i32_w]
                                              rfl
                                            refine pure_ (i := 3) (N := some 83) (v := ?_) (a' := ?_) #[false, true, true, true, false, false, false, false, false, false, false, false, false, false] rfl rfl (any_of HT_.out (by kernel_rfl)) (fun _ _ _ h => h) (Or.inl ⟨by rfl, ?_⟩) ?_ ?_
                                            rotate_left
                                            · intro w'
                                              go_simp
                                              with_reducible rfl
                                            rotate_left
                                            · simp only [Act.put, List.setIfInBounds_toArray, List.set_cons_zero, List.set_cons_succ, i64_w, i32_w]
                                              rfl
                                            refine pure_ (i := 4) (N := some 84) (v := ?_) (a' := ?_) #[false, true, true, true, true, false, false, false, false, false, false, false, false, false] rfl rfl (any_of HT_.out (by kernel_rfl)) (fun _ _ _ h => h) (Or.inl ⟨by rfl, ?_⟩) ?_ ?_
                                            rotate_left
                                            · intro w'
                                              go_simp
                                              with_reducible rfl
                                            rotate_left
                                            · simp only [Act.put, List.setIfInBounds_toArray, List.set_cons_zero, List.set_cons_succ, i64_w, i32_w]
                                              rfl
                                            refine pure_ (i := 5) (N := some 85) (v := ?_) (a' := ?_) #[false, true, true, true, true, true, false, false, false, false, false, false, false, false] rfl rfl (any_of HT_.out (by kernel_rfl)) (fun _ _ _ h => h) (Or.inl ⟨by rfl, ?_⟩) ?_ ?_
                                            rotate_left
                                            · intro w'
                                              go_simp
                                              with_reducible rfl
                                            rotate_left
                                            · simp only [Act.put, List.setIfInBounds_toArray, List.set_cons_zero, List.set_cons_succ, i64_w, i32_w]
                                              rfl
                                            refine pure_ (i := 6) (N := some 86) (v := ?_) (a' := ?_) #[false, true, true, true, true, true, true, false, false, false, false, false, false, false] rfl rfl (any_of HT_.out (by kernel_rfl)) (fun _ _ _ h => h) (Or.inl ⟨by rfl, ?_⟩) ?_ ?_
                                            rotate_left
                                            · intro w'
                                              go_simp
                                              with_reducible rfl
                                            rotate_left
                                            · simp only [Act.put, List.setIfInBounds_toArray, List.set_cons_zero, List.set_cons_succ, i64_w, i32_w]
                                              rfl
                                            refine pure_ (i := 7) (N := some 87) (v := ?_) (a' := ?_) #[false, true, true, true, true, true, true, true, false, false, false, false, false, false] rfl rfl (any_of HT_.out (by kernel_rfl)) (fun _ _ _ h => h) (Or.inl ⟨by rfl, ?_⟩) ?_ ?_
                                            rotate_left
                                            · intro w'
                                              go_simp
                                              with_reducible rfl
                                            rotate_left
                                            · simp only [Act.put, List.setIfInBounds_toArray, List.set_cons_zero, List.set_cons_succ, i64_w, i32_w]
                                              rfl
                                            refine take_ (i := 0) (N := some 80) (v := ?_) (a' := ?_) #[true, true, true, true, true, true, true, true, false, false, false, false, false, false] rfl rfl (take_ofW HT_.out HW_.out (by kernel_rfl)) (fun _ _ _ h => h) (Or.inl ⟨by rfl, ?_⟩) hHeld ?_ ?_
                                            rotate_left
                                            · rintro w' ⟨s0, s1⟩
                                              go_simp
                                              with_reducible rfl
                                            rotate_left
                                            · simp only [Act.put, List.setIfInBounds_toArray, List.set_cons_zero, List.set_cons_succ, i64_w, i32_w]
                                              rfl
                                            refine one_ (i := 8) (N := some 88) #[true, true, true, true, true, true, true, true, true, false, false, false, false, false] rfl rfl (one_of HT_.out (by kernel_rfl)) (by decide) (fun K hK => ?_)
                                            refine goes_ Try.func37 (by kernel_rfl) rfl #[.agg #[.slice Ao13 t205.length co13, .slice Ao15 t208.length co15], .int .i64 (Int.tmod (rd t200 2) (wrap64 (4 + (Int.tmod (rd t200 0) 20)))), .int .i64 ji32, .slice Ao55 y226.length co55] (by rfl) rfl rfl (by (try simp only [List.map_toArray, List.map_cons, List.map_nil]); first | done | (simp only [hji32]; rfl) | rfl | (simp only [List.length_drop, List.length_take]; rfl)) ?_
                                            with_reducible refine (impl_TurnAll.calls k2 _ _ t205 _ _ t208 (Int.tmod (rd t200 2) (wrap64 (4 + (Int.tmod (rd t200 0) 20)))) ji32 _ _ y226 t230 true _ ?side1 ?side2 ?side3 ?side4 ?side5 ?side6 A35.out).mono ?_
                                            (case side1 => repeat (first | exact (Kd.S_reads' HO_213000.out).2.2 | (with_reducible refine Kd.C_alloc ?_ _) | (with_reducible refine Kd.C_drewN ?_ _) | (with_reducible refine Kd.C_drew ?_)))
                                            (case side2 => exact (Kd.S_reads' HO_213000.out).2.1)
                                            (case side3 => repeat (first | exact (Kd.S_reads' HO_213001.out).2.2 | (with_reducible refine Kd.C_alloc ?_ _) | (with_reducible refine Kd.C_drewN ?_ _) | (with_reducible refine Kd.C_drew ?_)))
                                            (case side4 => exact (Kd.S_reads' HO_213001.out).2.1)
                                            (case side5 => repeat (first | exact (by repeat (first | (with_reducible exact HR229.out) | (with_reducible refine Kd.C_alloc ?_ _) | (with_reducible refine Kd.C_drewN ?_ _) | (with_reducible refine Kd.C_drew ?_) | exact HR229.out)) | (with_reducible refine Kd.C_alloc ?_ _) | (with_reducible refine Kd.C_drewN ?_ _) | (with_reducible refine Kd.C_drew ?_)))
                                            (case side6 => exact HC229.out)
                                            rintro e w59 ⟨v231, rfl, ho0, hb⟩
                                            refine ⟨_, rfl, ?_⟩
                                            have n0_ := Aside0.mk (Kd.R_elder' (by (with_reducible repeat (first | apply Kd.R_alloc | apply Kd.R_drewN | apply Kd.R_drew)); exact HO_3.out) (Kd.R_base ho0) hb)
                                            have n1_ := Aside0.mk (Kd.R_elder' (by (with_reducible repeat (first | apply Kd.R_alloc | apply Kd.R_drewN | apply Kd.R_drew)); exact HO_8.out) (Kd.R_base ho0) hb)
                                            have n2_ := Aside0.mk (Kd.S_elder' (by (with_reducible repeat (first | apply Kd.S_alloc | apply Kd.S_drewN | apply Kd.S_drew)); exact HO_213000.out) (Kd.R_base ho0) hb)
                                            have n3_ := Aside0.mk (Kd.S_elder' (by (with_reducible repeat (first | apply Kd.S_alloc | apply Kd.S_drewN | apply Kd.S_drew)); exact HO_213001.out) (Kd.R_base ho0) hb)
                                            have n4_ := Aside0.mk (Kd.R_elder' (by (with_reducible repeat (first | apply Kd.R_alloc | apply Kd.R_drewN | apply Kd.R_drew)); exact HO224.out) (Kd.R_base ho0) hb)
                                            have n5_ := Aside0.mk (Kd.R_lower (Kd.R_new' (Kd.R_new' (Kd.R_new' ho0 (Kd.R_lt (by (with_reducible repeat (first | apply Kd.R_alloc | apply Kd.R_drewN | apply Kd.R_drew)); exact HO_3.out))) (Kd.R_lt (by (with_reducible repeat (first | apply Kd.R_alloc | apply Kd.R_drewN | apply Kd.R_drew)); exact HO_8.out))) (Kd.R_lt (by (with_reducible repeat (first | apply Kd.R_alloc | apply Kd.R_drewN | apply Kd.R_drew)); exact HO224.out))) (below_size (by repeat (first | (with_reducible first | exact HB.out | apply below_alloc | apply pw_below_drewN | apply below_drew1 | refine below_set ?_ GE212.out) | exact HB.out))))
                                            have n6_ := Aside0.mk (blk_below (g := gb212) (o := .cells #[.slice Ao13 t205.length co13, .slice Ao15 t208.length co15] 24 (0, 0)) (by (with_reducible repeat (first | refine blk_drewN ?_ _ | refine blk_drew ?_ | refine blk_alloc ?_ _)); exact BK212.out) hb)
                                            have n7_ := Aside0.mk (Kd.C_below (by repeat (first | (with_reducible exact HR229.out) | (with_reducible refine Kd.C_alloc ?_ _) | (with_reducible refine Kd.C_drewN ?_ _) | (with_reducible refine Kd.C_drew ?_) | exact HR229.out)) hb)
                                            have n8_ := Aside0.mk (below_step (by repeat (first | (with_reducible first | exact HB.out | apply below_alloc | apply pw_below_drewN | apply below_drew1 | refine below_set ?_ GE212.out) | exact HB.out)) hb)
                                            clear HO_3
                                            clear HO_8
                                            clear HO_213000
                                            clear HO_213001
                                            clear HO224
                                            clear BK212
                                            clear HR229
                                            clear HB
                                            have HO_3 := n0_
                                            have HO_8 := n1_
                                            have HO_213000 := n2_
                                            have HO_213001 := n3_
                                            have HO224 := n4_
                                            have HO232 := n5_
                                            have BK212 := n6_
                                            have HR229 := n7_
                                            have HB := n8_
                                            clear n0_ n1_ n2_ n3_ n4_ n5_ n6_ n7_ n8_
                                            (try clear hb)
                                            (try clear hb2)
                                            (try clear hk)
                                            (try clear hi)
                                            (try clear ho0)
                                            refine hK.out _ _ ⟨(blk_cell BK212.out 0).trans rfl, (blk_cell BK212.out 1).trans rfl⟩ (fun hHeld => ?_)
                                            clear hK K
                                            refine norm_ (a' := ?_) ?_ ?_
                                            rotate_left
                                            · show Act.put _ (some 88) _ = _
                                              simp only [Act.put, List.setIfInBounds_toArray, List.set_cons_zero, List.set_cons_succ, i64_w, i32_w]
                                              rfl
                                            refine pure_ (i := 9) (N := some 79) (v := ?_) (a' := ?_) #[true, true, true, true, true, true, true, true, true, true, false, false, false, false] rfl rfl (any_of HT_.out (by kernel_rfl)) (fun _ _ _ h => h) (Or.inl ⟨by rfl, ?_⟩) ?_ ?_
                                            rotate_left
                                            · intro w'
                                              go_simp
                                              with_reducible rfl
                                            rotate_left
                                            · simp only [Act.put, List.setIfInBounds_toArray, List.set_cons_zero, List.set_cons_succ, i64_w, i32_w]
                                              rfl
                                            refine pure_ (i := 10) (N := some 89) (v := ?_) (a' := ?_) #[true, true, true, true, true, true, true, true, true, true, true, false, false, false] rfl rfl (any_of HT_.out (by kernel_rfl)) (fun _ _ _ h => h) (Or.inl ⟨by rfl, ?_⟩) ?_ ?_
                                            rotate_left
                                            · intro w'
                                              go_simp
                                              with_reducible rfl
                                            rotate_left
                                            · simp only [Act.put, List.setIfInBounds_toArray, List.set_cons_zero, List.set_cons_succ, i64_w, i32_w]
                                              rfl
                                            refine pure_ (i := 11) (N := some 90) (v := ?_) (a' := ?_) #[true, true, true, true, true, true, true, true, true, true, true, true, false, false] rfl rfl (any_of HT_.out (by kernel_rfl)) (fun _ _ _ h => h) (Or.inl ⟨by rfl, ?_⟩) ?_ ?_
                                            rotate_left
                                            · intro w'
                                              go_simp
                                              with_reducible rfl
                                            rotate_left
                                            · simp only [Act.put, List.setIfInBounds_toArray, List.set_cons_zero, List.set_cons_succ, i64_w, i32_w]
                                              rfl
                                            refine pure_ (i := 12) (N := some 13) (v := ?_) (a' := ?_) #[true, true, true, true, true, true, true, true, true, true, true, true, true, false] rfl rfl (any_of HT_.out (by kernel_rfl)) (fun _ _ _ h => h) (Or.inl ⟨by rfl, ?_⟩) ?_ ?_
                                            rotate_left
                                            · intro w'
                                              go_simp
                                              with_reducible rfl
                                            rotate_left
                                            · simp only [Act.put, List.setIfInBounds_toArray, List.set_cons_zero, List.set_cons_succ, i64_w, i32_w]
                                              rfl
                                            refine pure_ (i := 13) (N := some 14) (v := ?_) (a' := ?_) #[true, true, true, true, true, true, true, true, true, true, true, true, true, true] rfl rfl (any_of HT_.out (by kernel_rfl)) (fun _ _ _ h => h) (Or.inl ⟨by rfl, ?_⟩) ?_ ?_
                                            rotate_left
                                            · intro w'
                                              go_simp
                                              with_reducible rfl
                                            rotate_left
                                            · simp only [Act.put, List.setIfInBounds_toArray, List.set_cons_zero, List.set_cons_succ, i64_w, i32_w]
                                              rfl
                                            refine done_ (done_of HT_.out (by kernel_rfl)) ?_
                                            try go_wp2
                                            have n0_ := Aside0.mk (Kd.R_drew HO_3.out)
                                            have n1_ := Aside0.mk (Kd.R_drew HO_8.out)
                                            have n2_ := Aside0.mk (Kd.S_drew HO_213000.out)
                                            have n3_ := Aside0.mk (Kd.S_drew HO_213001.out)
                                            have n4_ := Aside0.mk (Kd.R_drew HO224.out)
                                            have n5_ := Aside0.mk (Kd.R_drew HO232.out)
                                            have n6_ := Aside0.mk (blk_drew BK212.out)
                                            have n7_ := Aside0.mk (Kd.C_drew HR229.out)
                                            have n8_ := Aside0.mk (below_drew1 HB.out)
                                            clear HO_3
                                            clear HO_8
                                            clear HO_213000
                                            clear HO_213001
                                            clear HO224
                                            clear HO232
                                            clear BK212
                                            clear HR229
                                            clear HB
                                            have HO_3 := n0_
                                            have HO_8 := n1_
                                            have HO_213000 := n2_
                                            have HO_213001 := n3_
                                            have HO224 := n4_
                                            have HO232 := n5_
                                            have BK212 := n6_
                                            have HR229 := n7_
                                            have HB := n8_
                                            clear n0_ n1_ n2_ n3_ n4_ n5_ n6_ n7_ n8_
                                            have q61 : ((ji32) : Int) ≤ ((x8_2.length : Int) : Int) := of_decide_eq_true (by first | (with_reducible assumption) | assumption)
                                            obtain ⟨i061, hi061, _, hsz61, _⟩ := info_parts info3
                                            have hroom61 : x8_2.length ≤ co55 := (Kd.R_reads' HO_8.out).2.1
                                            have hC61 : Kd.C (Kd.int .i64) _ Ao55 x8_2.length x8_2 := (Kd.R_reads' HO_8.out).2.2
                                            have q061 : (0 : Int) ≤ ((ji32) : Int) := of_decide_eq_true (by first | (with_reducible assumption) | assumption)
                                            have hcut61 := cut_from (P := Try.prog) 32 3 .i64 Try.underlying32 hi061 1 hsz61 Ao55 x8_2.length co55 (ji32) q061 q61
                                            have hr61 := Kd.C_drop (m := ((ji32) : Int).toNat) (c := co55) hC61 (by omega) hroom61
                                            obtain ⟨A61, hA61⟩ : ∃ A1, A1 = (if co55 = ((ji32) : Int).toNat then Ao55 else (Ao55 : Option Addr).map (·.add (((ji32) : Int).toNat * 1))) := ⟨_, rfl⟩
                                            obtain ⟨c61, hc61⟩ : ∃ c1, c1 = co55 - ((ji32) : Int).toNat := ⟨_, rfl⟩
                                            have hy61 : y234.length = x8_2.length - ((ji32) : Int).toNat := (by rw [Ny234.out, List.length_drop] <;> omega)
                                            rw [show (x8_2).drop ((ji32) : Int).toNat = y234 from Ny234.out.symm] at hr61
                                            replace hr61 : Kd.C (Kd.int .i64) _ A61 y234.length y234 := (by rw [hA61]; exact hr61)
                                            rw [← hy61, ← hA61, ← hc61] at hcut61
                                            have HR237 := Aside0.mk hr61
                                            have HC237 := Aside0.mk (show y234.length ≤ c61 from by rw [hy61, hc61]; exact Nat.sub_le_sub_right hroom61 _)
                                            clear hr61 hC61 hroom61 hi061 hsz61 hc61
                                            have KY61 := Aside0.mk hy61
                                            have KA61 := Aside0.mk hA61
                                            clear hy61 hA61
                                            have KL61 := Aside0.mk (show ((ji32) : Int).toNat ≤ x8_2.length from by omega)
                                            replace q61 := eq_true q61
                                            refine start_ (n := 14) (S := fun w' => w'.cell? ⟨gb212, 0, none⟩ = some (.slice Ao13 t205.length co13) ∧ w'.cell? ⟨gb212, 1, none⟩ = some (.slice Ao15 t208.length co15)) (ds := []) #[false, false, false, false, false, false, false, false, false, false, false, false, false, false] (by kernel_rfl) rfl rfl ⟨(blk_cell BK212.out 0).trans rfl, (blk_cell BK212.out 1).trans rfl⟩ (fun hHeld => ?_); refine with_tabW laws_FnTurns.tab17 laws_FnTurns.bits17 (fun HT_ HW_ => ?_)
                                            generalize w59.drew = w60 at HO_3 HO_8 HO_213000 HO_213001 HO224 HO232 BK212 HR229 HB HR237 hHeld ⊢
                                            refine pure_ (i := 1) (N := some 93) (v := ?_) (a' := ?_) #[false, true, false, false, false, false, false, false, false, false, false, false, false, false] rfl rfl (any_of HT_.out (by kernel_rfl)) (fun _ _ _ h => h) (Or.inl ⟨by rfl, ?_⟩) ?_ ?_
                                            rotate_left
                                            · intro w'
                                              go_simp
                                              with_reducible rfl
                                            rotate_left
                                            · simp only [Act.put, List.setIfInBounds_toArray, List.set_cons_zero, List.set_cons_succ, i64_w, i32_w]
                                              rfl
                                            refine pure_ (i := 2) (N := some 94) (v := ?_) (a' := ?_) #[false, true, true, false, false, false, false, false, false, false, false, false, false, false] rfl rfl (any_of HT_.out (by kernel_rfl)) (fun _ _ _ h => h) (Or.inl ⟨by rfl, ?_⟩) ?_ ?_
                                            rotate_left
                                            · intro w'
                                              go_simp
                                              with_reducible rfl
                                            rotate_left
                                            · simp only [Act.put, List.setIfInBounds_toArray, List.set_cons_zero, List.set_cons_succ, i64_w, i32_w]
                                              rfl
                                            refine pure_ (i := 3) (N := some 95) (v := ?_) (a' := ?_) #[false, true, true, true, false, false, false, false, false, false, false, false, false, false] rfl rfl (any_of HT_.out (by kernel_rfl)) (fun _ _ _ h => h) (Or.inl ⟨by rfl, ?_⟩) ?_ ?_
                                            rotate_left
                                            · intro w'
                                              go_simp
                                              with_reducible rfl
                                            rotate_left
                                            · simp only [Act.put, List.setIfInBounds_toArray, List.set_cons_zero, List.set_cons_succ, i64_w, i32_w]
                                              rfl
                                            refine pure_ (i := 4) (N := some 96) (v := ?_) (a' := ?_) #[false, true, true, true, true, false, false, false, false, false, false, false, false, false] rfl rfl (any_of HT_.out (by kernel_rfl)) (fun _ _ _ h => h) (Or.inl ⟨by rfl, ?_⟩) ?_ ?_
                                            rotate_left
                                            · intro w'
                                              go_simp
                                              with_reducible rfl
                                            rotate_left
                                            · simp only [Act.put, List.setIfInBounds_toArray, List.set_cons_zero, List.set_cons_succ, i64_w, i32_w]
                                              rfl
                                            refine pure_ (i := 5) (N := some 97) (v := ?_) (a' := ?_) #[false, true, true, true, true, true, false, false, false, false, false, false, false, false] rfl rfl (any_of HT_.out (by kernel_rfl)) (fun _ _ _ h => h) (Or.inl ⟨by rfl, ?_⟩) ?_ ?_
                                            rotate_left
                                            · intro w'
                                              go_simp
                                              with_reducible rfl
                                            rotate_left
                                            · simp only [Act.put, List.setIfInBounds_toArray, List.set_cons_zero, List.set_cons_succ, i64_w, i32_w]
                                              rfl
                                            refine pure_ (i := 6) (N := some 98) (v := ?_) (a' := ?_) #[false, true, true, true, true, true, true, false, false, false, false, false, false, false] rfl rfl (any_of HT_.out (by kernel_rfl)) (fun _ _ _ h => h) (Or.inl ⟨by rfl, ?_⟩) ?_ ?_
                                            rotate_left
                                            · intro w'
                                              go_simp
                                              with_reducible rfl
                                            rotate_left
                                            · simp only [Act.put, List.setIfInBounds_toArray, List.set_cons_zero, List.set_cons_succ, i64_w, i32_w]
                                              rfl
                                            refine pure_ (i := 7) (N := some 99) (v := ?_) (a' := ?_) #[false, true, true, true, true, true, true, true, false, false, false, false, false, false] rfl rfl (any_of HT_.out (by kernel_rfl)) (fun _ _ _ h => h) (Or.inl ⟨by rfl, ?_⟩) ?_ ?_
                                            rotate_left
                                            · intro w'
                                              go_simp
                                              with_reducible rfl
                                            rotate_left
                                            · simp only [Act.put, List.setIfInBounds_toArray, List.set_cons_zero, List.set_cons_succ, i64_w, i32_w]
                                              rfl
                                            refine take_ (i := 0) (N := some 92) (v := ?_) (a' := ?_) #[true, true, true, true, true, true, true, true, false, false, false, false, false, false] rfl rfl (take_ofW HT_.out HW_.out (by kernel_rfl)) (fun _ _ _ h => h) (Or.inl ⟨by rfl, ?_⟩) hHeld ?_ ?_
                                            rotate_left
                                            · rintro w' ⟨s0, s1⟩
                                              go_simp
                                              with_reducible rfl
                                            rotate_left
                                            · simp only [Act.put, List.setIfInBounds_toArray, List.set_cons_zero, List.set_cons_succ, i64_w, i32_w]
                                              rfl
                                            refine one_ (i := 8) (N := some 100) #[true, true, true, true, true, true, true, true, true, false, false, false, false, false] rfl rfl (one_of HT_.out (by kernel_rfl)) (by decide) (fun K hK => ?_)
                                            refine goes_ Try.func37 (by kernel_rfl) rfl #[.agg #[.slice Ao13 t205.length co13, .slice Ao15 t208.length co15], .int .i64 (Int.tmod (rd t200 2) (wrap64 (4 + (Int.tmod (rd t200 0) 20)))), .int .i64 ji32, .slice A61 y234.length c61] (by rfl) rfl rfl (by (try simp only [List.map_toArray, List.map_cons, List.map_nil]); first | done | (simp only [hji32]; rfl) | rfl | (simp only [List.length_drop, List.length_take]; rfl)) ?_
                                            with_reducible refine (impl_TurnAll.calls k2 _ _ t205 _ _ t208 (Int.tmod (rd t200 2) (wrap64 (4 + (Int.tmod (rd t200 0) 20)))) ji32 _ _ y234 t238 true _ ?side1 ?side2 ?side3 ?side4 ?side5 ?side6 A38.out).mono ?_
                                            (case side1 => repeat (first | exact (Kd.S_reads' HO_213000.out).2.2 | (with_reducible refine Kd.C_alloc ?_ _) | (with_reducible refine Kd.C_drewN ?_ _) | (with_reducible refine Kd.C_drew ?_)))
                                            (case side2 => exact (Kd.S_reads' HO_213000.out).2.1)
                                            (case side3 => repeat (first | exact (Kd.S_reads' HO_213001.out).2.2 | (with_reducible refine Kd.C_alloc ?_ _) | (with_reducible refine Kd.C_drewN ?_ _) | (with_reducible refine Kd.C_drew ?_)))
                                            (case side4 => exact (Kd.S_reads' HO_213001.out).2.1)
                                            (case side5 => repeat (first | exact (by repeat (first | (with_reducible exact HR237.out) | (with_reducible refine Kd.C_alloc ?_ _) | (with_reducible refine Kd.C_drewN ?_ _) | (with_reducible refine Kd.C_drew ?_) | exact HR237.out)) | (with_reducible refine Kd.C_alloc ?_ _) | (with_reducible refine Kd.C_drewN ?_ _) | (with_reducible refine Kd.C_drew ?_)))
                                            (case side6 => exact HC237.out)
                                            rintro e w62 ⟨v239, rfl, ho0, hb⟩
                                            refine ⟨_, rfl, ?_⟩
                                            have n0_ := Aside0.mk (Kd.R_elder' (by (with_reducible repeat (first | apply Kd.R_alloc | apply Kd.R_drewN | apply Kd.R_drew)); exact HO_3.out) (Kd.R_base ho0) hb)
                                            have n1_ := Aside0.mk (Kd.R_elder' (by (with_reducible repeat (first | apply Kd.R_alloc | apply Kd.R_drewN | apply Kd.R_drew)); exact HO_8.out) (Kd.R_base ho0) hb)
                                            have n2_ := Aside0.mk (Kd.S_elder' (by (with_reducible repeat (first | apply Kd.S_alloc | apply Kd.S_drewN | apply Kd.S_drew)); exact HO_213000.out) (Kd.R_base ho0) hb)
                                            have n3_ := Aside0.mk (Kd.S_elder' (by (with_reducible repeat (first | apply Kd.S_alloc | apply Kd.S_drewN | apply Kd.S_drew)); exact HO_213001.out) (Kd.R_base ho0) hb)
                                            have n4_ := Aside0.mk (Kd.R_elder' (by (with_reducible repeat (first | apply Kd.R_alloc | apply Kd.R_drewN | apply Kd.R_drew)); exact HO224.out) (Kd.R_base ho0) hb)
                                            have n5_ := Aside0.mk (Kd.R_elder' (by (with_reducible repeat (first | apply Kd.R_alloc | apply Kd.R_drewN | apply Kd.R_drew)); exact HO232.out) (Kd.R_base ho0) hb)
                                            have n6_ := Aside0.mk (Kd.R_lower (Kd.R_new' (Kd.R_new' (Kd.R_new' (Kd.R_new' ho0 (Kd.R_lt (by (with_reducible repeat (first | apply Kd.R_alloc | apply Kd.R_drewN | apply Kd.R_drew)); exact HO_3.out))) (Kd.R_lt (by (with_reducible repeat (first | apply Kd.R_alloc | apply Kd.R_drewN | apply Kd.R_drew)); exact HO_8.out))) (Kd.R_lt (by (with_reducible repeat (first | apply Kd.R_alloc | apply Kd.R_drewN | apply Kd.R_drew)); exact HO224.out))) (Kd.R_lt (by (with_reducible repeat (first | apply Kd.R_alloc | apply Kd.R_drewN | apply Kd.R_drew)); exact HO232.out))) (below_size (by repeat (first | (with_reducible first | exact HB.out | apply below_alloc | apply pw_below_drewN | apply below_drew1 | refine below_set ?_ GE212.out) | exact HB.out))))
                                            have n7_ := Aside0.mk (blk_below (g := gb212) (o := .cells #[.slice Ao13 t205.length co13, .slice Ao15 t208.length co15] 24 (0, 0)) (by (with_reducible repeat (first | refine blk_drewN ?_ _ | refine blk_drew ?_ | refine blk_alloc ?_ _)); exact BK212.out) hb)
                                            have n8_ := Aside0.mk (Kd.C_below (by repeat (first | (with_reducible exact HR229.out) | (with_reducible refine Kd.C_alloc ?_ _) | (with_reducible refine Kd.C_drewN ?_ _) | (with_reducible refine Kd.C_drew ?_) | exact HR229.out)) hb)
                                            have n9_ := Aside0.mk (Kd.C_below (by repeat (first | (with_reducible exact HR237.out) | (with_reducible refine Kd.C_alloc ?_ _) | (with_reducible refine Kd.C_drewN ?_ _) | (with_reducible refine Kd.C_drew ?_) | exact HR237.out)) hb)
                                            have n10_ := Aside0.mk (below_step (by repeat (first | (with_reducible first | exact HB.out | apply below_alloc | apply pw_below_drewN | apply below_drew1 | refine below_set ?_ GE212.out) | exact HB.out)) hb)
                                            clear HO_3
                                            clear HO_8
                                            clear HO_213000
                                            clear HO_213001
                                            clear HO224
                                            clear HO232
                                            clear BK212
                                            clear HR229
                                            clear HR237
                                            clear HB
                                            have HO_3 := n0_
                                            have HO_8 := n1_
                                            have HO_213000 := n2_
                                            have HO_213001 := n3_
                                            have HO224 := n4_
                                            have HO232 := n5_
                                            have HO240 := n6_
                                            have BK212 := n7_
                                            have HR229 := n8_
                                            have HR237 := n9_
                                            have HB := n10_
                                            clear n0_ n1_ n2_ n3_ n4_ n5_ n6_ n7_ n8_ n9_ n10_
                                            (try clear hb)
                                            (try clear hb2)
                                            (try clear hk)
                                            (try clear hi)
                                            (try clear ho0)
                                            refine hK.out _ _ ⟨(blk_cell BK212.out 0).trans rfl, (blk_cell BK212.out 1).trans rfl⟩ (fun hHeld => ?_)
                                            clear hK K
                                            refine norm_ (a' := ?_) ?_ ?_
                                            rotate_left
                                            · show Act.put _ (some 100) _ = _
                                              simp only [Act.put, List.setIfInBounds_toArray, List.set_cons_zero, List.set_cons_succ, i64_w, i32_w]
                                              rfl
                                            refine pure_ (i := 9) (N := some 91) (v := ?_) (a' := ?_) #[true, true, true, true, true, true, true, true, true, true, false, false, false, false] rfl rfl (any_of HT_.out (by kernel_rfl)) (fun _ _ _ h => h) (Or.inl ⟨by rfl, ?_⟩) ?_ ?_
                                            rotate_left
                                            · intro w'
                                              go_simp
                                              with_reducible rfl
                                            rotate_left
                                            · simp only [Act.put, List.setIfInBounds_toArray, List.set_cons_zero, List.set_cons_succ, i64_w, i32_w]
                                              rfl
                                            refine pure_ (i := 10) (N := some 101) (v := ?_) (a' := ?_) #[true, true, true, true, true, true, true, true, true, true, true, false, false, false] rfl rfl (any_of HT_.out (by kernel_rfl)) (fun _ _ _ h => h) (Or.inl ⟨by rfl, ?_⟩) ?_ ?_
                                            rotate_left
                                            · intro w'
                                              go_simp
                                              with_reducible rfl
                                            rotate_left
                                            · simp only [Act.put, List.setIfInBounds_toArray, List.set_cons_zero, List.set_cons_succ, i64_w, i32_w]
                                              rfl
                                            refine pure_ (i := 11) (N := some 102) (v := ?_) (a' := ?_) #[true, true, true, true, true, true, true, true, true, true, true, true, false, false] rfl rfl (any_of HT_.out (by kernel_rfl)) (fun _ _ _ h => h) (Or.inl ⟨by rfl, ?_⟩) ?_ ?_
                                            rotate_left
                                            · intro w'
                                              go_simp
                                              with_reducible rfl
                                            rotate_left
                                            · simp only [Act.put, List.setIfInBounds_toArray, List.set_cons_zero, List.set_cons_succ, i64_w, i32_w]
                                              rfl
                                            refine pure_ (i := 12) (N := some 15) (v := ?_) (a' := ?_) #[true, true, true, true, true, true, true, true, true, true, true, true, true, false] rfl rfl (any_of HT_.out (by kernel_rfl)) (fun _ _ _ h => h) (Or.inl ⟨by rfl, ?_⟩) ?_ ?_
                                            rotate_left
                                            · intro w'
                                              go_simp
                                              with_reducible rfl
                                            rotate_left
                                            · simp only [Act.put, List.setIfInBounds_toArray, List.set_cons_zero, List.set_cons_succ, i64_w, i32_w]
                                              rfl
                                            refine pure_ (i := 13) (N := some 16) (v := ?_) (a' := ?_) #[true, true, true, true, true, true, true, true, true, true, true, true, true, true] rfl rfl (any_of HT_.out (by kernel_rfl)) (fun _ _ _ h => h) (Or.inl ⟨by rfl, ?_⟩) ?_ ?_
                                            rotate_left
                                            · intro w'
                                              go_simp
                                              with_reducible rfl
                                            rotate_left
                                            · simp only [Act.put, List.setIfInBounds_toArray, List.set_cons_zero, List.set_cons_succ, i64_w, i32_w]
                                              rfl
                                            refine done_ (done_of HT_.out (by kernel_rfl)) ?_
                                            have hcz63_0 : w62.cell? ⟨gb212, 0, none⟩ = some (.slice Ao13 t205.length co13) := (blk_cell BK212.out 0).trans rfl
                                            have hcz63_1 : w62.cell? ⟨gb212, 1, none⟩ = some (.slice Ao15 t208.length co15) := (blk_cell BK212.out 1).trans rfl
                                            have hfz63_0 := blk_frozen BK212.out 0
                                            have hfz63_1 := blk_frozen BK212.out 1
                                            try go_wp2_with (first | ((with_reducible refine gate_callee (f := 37) rfl ?_); refine goesL_ (some 109) rfl rfl Try.func37 (by kernel_rfl) rfl #[.agg #[.slice Ao13 t205.length co13, .slice Ao15 t208.length co15], .int .i64 (wrap64 (4 + (Int.tmod (rd t200 0) 20))), .int .i64 ji32, .slice Ao55 x8_2.length co55] rfl (by (try simp only [List.map_toArray, List.map_cons, List.map_nil]); first | done | (simp only [hji32]; rfl) | rfl | (simp only [List.length_drop, List.length_take]; rfl)) ?_; (with_reducible refine (impl_TurnAll.calls k2 _ _ t205 _ _ t208 (wrap64 (4 + (Int.tmod (rd t200 0) 20))) ji32 _ _ x8_2 t242 false _ ?side1 ?side2 ?side3 ?side4 ?side5 ?side6 A39.out).mono ?_); (case side1 => repeat (first | exact (Kd.S_reads' HO_213000.out).2.2 | (with_reducible refine Kd.C_alloc ?_ _) | (with_reducible refine Kd.C_drewN ?_ _) | (with_reducible refine Kd.C_drew ?_))); (case side2 => exact (Kd.S_reads' HO_213000.out).2.1); (case side3 => repeat (first | exact (Kd.S_reads' HO_213001.out).2.2 | (with_reducible refine Kd.C_alloc ?_ _) | (with_reducible refine Kd.C_drewN ?_ _) | (with_reducible refine Kd.C_drew ?_))); (case side4 => exact (Kd.S_reads' HO_213001.out).2.1); (case side5 => repeat (first | exact (Kd.R_reads' HO_8.out).2.2 | (with_reducible refine Kd.C_alloc ?_ _) | (with_reducible refine Kd.C_drewN ?_ _) | (with_reducible refine Kd.C_drew ?_))); (case side6 => exact (Kd.R_reads' HO_8.out).2.1); rintro e w64 ⟨v243, rfl, ho0, hb⟩; refine ⟨_, rfl, ?_⟩; have n0_ := Aside0.mk (Kd.R_elder' (by (with_reducible repeat (first | apply Kd.R_alloc | apply Kd.R_drewN | apply Kd.R_drew)); exact HO_3.out) (Kd.R_base ho0) hb); have n1_ := Aside0.mk (Kd.R_elder' (by (with_reducible repeat (first | apply Kd.R_alloc | apply Kd.R_drewN | apply Kd.R_drew)); exact HO_8.out) (Kd.R_base ho0) hb); have n2_ := Aside0.mk (Kd.S_elder' (by (with_reducible repeat (first | apply Kd.S_alloc | apply Kd.S_drewN | apply Kd.S_drew)); exact HO_213000.out) (Kd.R_base ho0) hb); have n3_ := Aside0.mk (Kd.S_elder' (by (with_reducible repeat (first | apply Kd.S_alloc | apply Kd.S_drewN | apply Kd.S_drew)); exact HO_213001.out) (Kd.R_base ho0) hb); have n4_ := Aside0.mk (Kd.R_elder' (by (with_reducible repeat (first | apply Kd.R_alloc | apply Kd.R_drewN | apply Kd.R_drew)); exact HO224.out) (Kd.R_base ho0) hb); have n5_ := Aside0.mk (Kd.R_elder' (by (with_reducible repeat (first | apply Kd.R_alloc | apply Kd.R_drewN | apply Kd.R_drew)); exact HO232.out) (Kd.R_base ho0) hb); have n6_ := Aside0.mk (Kd.R_elder' (by (with_reducible repeat (first | apply Kd.R_alloc | apply Kd.R_drewN | apply Kd.R_drew)); exact HO240.out) (Kd.R_base ho0) hb); have n7_ := Aside0.mk (Kd.R_lower (Kd.R_new' (Kd.R_new' (Kd.R_new' (Kd.R_new' (Kd.R_new' ho0 (Kd.R_lt (by (with_reducible repeat (first | apply Kd.R_alloc | apply Kd.R_drewN | apply Kd.R_drew)); exact HO_3.out))) (Kd.R_lt (by (with_reducible repeat (first | apply Kd.R_alloc | apply Kd.R_drewN | apply Kd.R_drew)); exact HO_8.out))) (Kd.R_lt (by (with_reducible repeat (first | apply Kd.R_alloc | apply Kd.R_drewN | apply Kd.R_drew)); exact HO224.out))) (Kd.R_lt (by (with_reducible repeat (first | apply Kd.R_alloc | apply Kd.R_drewN | apply Kd.R_drew)); exact HO232.out))) (Kd.R_lt (by (with_reducible repeat (first | apply Kd.R_alloc | apply Kd.R_drewN | apply Kd.R_drew)); exact HO240.out))) (below_size (by repeat (first | (with_reducible first | exact HB.out | apply below_alloc | apply pw_below_drewN | apply below_drew1 | refine below_set ?_ GE212.out) | exact HB.out)))); have n8_ := Aside0.mk (blk_below (g := gb212) (o := .cells #[.slice Ao13 t205.length co13, .slice Ao15 t208.length co15] 24 (0, 0)) (by (with_reducible repeat (first | refine blk_drewN ?_ _ | refine blk_drew ?_ | refine blk_alloc ?_ _)); exact BK212.out) hb); have n9_ := Aside0.mk (Kd.C_below (by repeat (first | (with_reducible exact HR229.out) | (with_reducible refine Kd.C_alloc ?_ _) | (with_reducible refine Kd.C_drewN ?_ _) | (with_reducible refine Kd.C_drew ?_) | exact HR229.out)) hb); have n10_ := Aside0.mk (Kd.C_below (by repeat (first | (with_reducible exact HR237.out) | (with_reducible refine Kd.C_alloc ?_ _) | (with_reducible refine Kd.C_drewN ?_ _) | (with_reducible refine Kd.C_drew ?_) | exact HR237.out)) hb); have n11_ := Aside0.mk (below_step (by repeat (first | (with_reducible first | exact HB.out | apply below_alloc | apply pw_below_drewN | apply below_drew1 | refine below_set ?_ GE212.out) | exact HB.out)) hb); clear HO_3; clear HO_8; clear HO_213000; clear HO_213001; clear HO224; clear HO232; clear HO240; clear BK212; clear HR229; clear HR237; clear HB; have HO_3 := n0_; have HO_8 := n1_; have HO_213000 := n2_; have HO_213001 := n3_; have HO224 := n4_; have HO232 := n5_; have HO240 := n6_; have HO244 := n7_; have BK212 := n8_; have HR229 := n9_; have HR237 := n10_; have HB := n11_; clear n0_ n1_ n2_ n3_ n4_ n5_ n6_ n7_ n8_ n9_ n10_ n11_; (try clear hb); (try clear hb2); (try clear hk); (try clear hi); (try clear ho0); obtain ⟨Ao65, co65, eo65⟩ := Kd.R_slice HO224.out; subst eo65) | (go_at_call 38; (with_reducible refine (laws_byteish.calls k2 _ _ t222 true _ ?side1 ?side2 A44.out).mono ?_); (case side1 => repeat (first | exact (Kd.R_reads' HO224.out).2.2 | (with_reducible refine Kd.C_alloc ?_ _) | (with_reducible refine Kd.C_drewN ?_ _) | (with_reducible refine Kd.C_drew ?_))); (case side2 => exact (Kd.R_reads' HO224.out).2.1); rintro e w' ⟨rfl, ⟨nd, rfl⟩⟩; have q66 : ((ji32) : Int) ≤ ((t222.length : Int) : Int) := of_decide_eq_true (by first | (with_reducible assumption) | assumption); obtain ⟨i066, hi066, _, hsz66, _⟩ := info_parts info3; have hroom66 : t222.length ≤ co65 := (Kd.R_reads' HO224.out).2.1; have hC66 : Kd.C (Kd.int .i64) _ Ao65 t222.length t222 := (Kd.R_reads' HO224.out).2.2; have hcut66 := cut_to (P := Try.prog) 32 3 .i64 Try.underlying32 hi066 Ao65 t222.length co65 (ji32) (of_decide_eq_true (by first | (with_reducible assumption) | assumption)) q66 hroom66; have hr66 := Kd.C_take (m := ((ji32) : Int).toNat) hC66 (by omega); have hy66 : y247.length = ((ji32) : Int).toNat := (by rw [Ny247.out, List.length_take]; omega); rw [← Ny247.out] at hr66; rw [← hy66] at hcut66; have HR250 := Aside0.mk hr66; have HC250 := Aside0.mk (show y247.length ≤ co65 from by omega); clear hr66 hC66 hroom66 hi066 hsz66; have KY66 := Aside0.mk hy66; clear hy66; have KL66 := Aside0.mk (show ((ji32) : Int).toNat ≤ t222.length from by omega); replace q66 := eq_true q66; obtain ⟨Ao67, co67, eo67⟩ := Kd.R_slice HO232.out; subst eo67) | (go_at_call 24; (with_reducible refine (laws_sameInts.calls k2 _ _ y247 _ _ t230 true _ ?side1 ?side2 ?side3 ?side4 A49.out).mono ?_); (case side1 => repeat (first | exact (by repeat (first | (with_reducible exact HR250.out) | (with_reducible refine Kd.C_alloc ?_ _) | (with_reducible refine Kd.C_drewN ?_ _) | (with_reducible refine Kd.C_drew ?_) | exact HR250.out)) | (with_reducible refine Kd.C_alloc ?_ _) | (with_reducible refine Kd.C_drewN ?_ _) | (with_reducible refine Kd.C_drew ?_))); (case side2 => exact HC250.out); (case side3 => repeat (first | exact (Kd.R_reads' HO232.out).2.2 | (with_reducible refine Kd.C_alloc ?_ _) | (with_reducible refine Kd.C_drewN ?_ _) | (with_reducible refine Kd.C_drew ?_))); (case side4 => exact (Kd.R_reads' HO232.out).2.1); rintro e w' ⟨rfl, ⟨nd, rfl⟩⟩; have q68 : ((ji32) : Int) ≤ ((t222.length : Int) : Int) := of_decide_eq_true (by first | (with_reducible assumption) | assumption); obtain ⟨i068, hi068, _, hsz68, _⟩ := info_parts info3; have hroom68 : t222.length ≤ co65 := (Kd.R_reads' HO224.out).2.1; have hC68 : Kd.C (Kd.int .i64) _ Ao65 t222.length t222 := (Kd.R_reads' HO224.out).2.2; have q068 : (0 : Int) ≤ ((ji32) : Int) := of_decide_eq_true (by first | (with_reducible assumption) | assumption); have hcut68 := cut_from (P := Try.prog) 32 3 .i64 Try.underlying32 hi068 1 hsz68 Ao65 t222.length co65 (ji32) q068 q68; have hr68 := Kd.C_drop (m := ((ji32) : Int).toNat) (c := co65) hC68 (by omega) hroom68; obtain ⟨A68, hA68⟩ : ∃ A1, A1 = (if co65 = ((ji32) : Int).toNat then Ao65 else (Ao65 : Option Addr).map (·.add (((ji32) : Int).toNat * 1))) := ⟨_, rfl⟩; obtain ⟨c68, hc68⟩ : ∃ c1, c1 = co65 - ((ji32) : Int).toNat := ⟨_, rfl⟩; have hy68 : y252.length = t222.length - ((ji32) : Int).toNat := (by rw [Ny252.out, List.length_drop] <;> omega); rw [show (t222).drop ((ji32) : Int).toNat = y252 from Ny252.out.symm] at hr68; replace hr68 : Kd.C (Kd.int .i64) _ A68 y252.length y252 := (by rw [hA68]; exact hr68); rw [← hy68, ← hA68, ← hc68] at hcut68; have HR255 := Aside0.mk hr68; have HC255 := Aside0.mk (show y252.length ≤ c68 from by rw [hy68, hc68]; exact Nat.sub_le_sub_right hroom68 _); clear hr68 hC68 hroom68 hi068 hsz68 hc68; have KY68 := Aside0.mk hy68; have KA68 := Aside0.mk hA68; clear hy68 hA68; have KL68 := Aside0.mk (show ((ji32) : Int).toNat ≤ t222.length from by omega); replace q68 := eq_true q68; obtain ⟨Ao69, co69, eo69⟩ := Kd.R_slice HO240.out; subst eo69) | (go_at_call 24; (with_reducible refine (laws_sameInts.calls k2 _ _ y252 _ _ t238 t256 _ ?side1 ?side2 ?side3 ?side4 A53.out).mono ?_); (case side1 => repeat (first | exact (by repeat (first | (with_reducible exact HR255.out) | (with_reducible refine Kd.C_alloc ?_ _) | (with_reducible refine Kd.C_drewN ?_ _) | (with_reducible refine Kd.C_drew ?_) | exact HR255.out)) | (with_reducible refine Kd.C_alloc ?_ _) | (with_reducible refine Kd.C_drewN ?_ _) | (with_reducible refine Kd.C_drew ?_))); (case side2 => exact HC255.out); (case side3 => repeat (first | exact (Kd.R_reads' HO240.out).2.2 | (with_reducible refine Kd.C_alloc ?_ _) | (with_reducible refine Kd.C_drewN ?_ _) | (with_reducible refine Kd.C_drew ?_))); (case side4 => exact (Kd.R_reads' HO240.out).2.1); rintro e w' ⟨rfl, ⟨nd, rfl⟩⟩))
                                            go_ret
                                            exact ⟨by first | rfl | (simp [errW_none, errW_some] <;> rfl) | (simp only [← hji32]; first | rfl | (simp [errW_none, errW_some] <;> rfl)) | (simp [*, errW_none, errW_some] <;> rfl), by repeat (first | (with_reducible first | exact HB.out | apply below_alloc | apply pw_below_drewN | apply below_drew1 | refine below_set ?_ GE212.out) | exact HB.out)⟩
                                          · replace c50 := Bool.eq_false_iff.mpr c50
                                            subst c50
                                            have H1 : (some false) = some r := by rw [if_neg (show ¬ (false = true) by decide)] at H; exact H
                                            clear H
                                            have H := H1
                                            clear H1
                                            exact absurd (Option.some.inj H) (by rw [hr_]; decide)
                                        · rw [if_neg c48] at H
                                          exact absurd H (by simp)
                                      · rw [if_neg c46] at H
                                        have c46b0 : ((t222.length : Int) == (x8_2.length : Int)) = false := beq_eq_false_iff_ne.mpr c46
                                        have c46b1 : ((t222.length : Int) != (x8_2.length : Int)) = true := bne_iff_ne.mpr c46
                                        have c46b2 : (t222.length == x8_2.length) = false := by first | simpa using c46 | (simp at c46 ⊢; omega)
                                        exact absurd (Option.some.inj H) (by rw [hr_]; decide)
                                    · replace c45 := Bool.eq_false_iff.mpr c45
                                      subst c45
                                      have H1 : (some false) = some r := by rw [if_neg (show ¬ (false = true) by decide)] at H; exact H
                                      clear H
                                      have H := H1
                                      clear H1
                                      exact absurd (Option.some.inj H) (by rw [hr_]; decide)
                                · replace c42 := Bool.eq_false_iff.mpr c42
                                  subst c42
                                  have H1 : (some false) = some r := by rw [if_neg (show ¬ (false = true) by decide)] at H; exact H
                                  clear H
                                  have H := H1
                                  clear H1
                                  exact absurd (Option.some.inj H) (by rw [hr_]; decide)
                              · replace c41 := Bool.eq_false_iff.mpr c41
                                subst c41
                                have H1 : (some false) = some r := by rw [if_neg (show ¬ (false = true) by decide)] at H; exact H
                                clear H
                                have H := H1
                                clear H1
                                exact absurd (Option.some.inj H) (by rw [hr_]; decide)
                            · replace c40 := Bool.eq_false_iff.mpr c40
                              subst c40
                              have H1 : (some false) = some r := by rw [if_neg (show ¬ (false = true) by decide)] at H; exact H
                              clear H
                              have H := H1
                              clear H1
                              exact absurd (Option.some.inj H) (by rw [hr_]; decide)
                          · rw [if_neg c34] at H
                            exact absurd H (by simp)
                        · rw [if_neg c33] at H
                          exact absurd H (by simp)
                    · rw [if_neg c29] at H
                      exact absurd H (by simp)
      · rw [if_neg c6] at H
        exact absurd H (by simp)
    · rw [if_neg c5] at H
      exact absurd H (by simp)

/-- THE ONE PURE STATEMENT of laws_FnTurns: yours. -/
def laws_FnTurns.Pure : Prop := ∀ (l0 : List Int), l0.length ≤ maxLen → l0.length * 1 ≤ 140737488351232 → (∀ x ∈ l0, (Lit.int .u8 x).wf = true) → ∃ k, laws_FnTurns.f k l0 = some true
theorem laws_FnTurns.walk (P : laws_FnTurns.Pure) (a0 : Option Addr) (len0 cap0 : Nat) (z0 : List Int) (w : World) (w0 : (a0 = none ∧ len0 = 0 ∧ cap0 = 0 ∧ z0 = []) ∨ ∃ x, a0 = some x ∧ len0 ≤ cap0 ∧ cap0 ≤ maxLen ∧ z0.length = cap0 ∧ (∀ i, i < z0.length → w.cell? (x.add i) = some (.int .u8 (z0.getD i 0))) ∧ ∀ n ∈ z0, (Lit.int .u8 n).wf = true) (y0 : len0 * 1 ≤ 140737488351232) :
    Calls Try.prog 6 #[.slice a0 len0 cap0] w fun e w' => e = .returned (.bool true) ∧ Below w.heap.size w w' := by
  obtain ⟨l0, rfl, hr0, hm0, hw0, hc0⟩ := ReadsInt.ofRowC w0
  obtain ⟨k, h⟩ := P l0 hm0 y0 hw0
  refine (laws_FnTurns.calls k _ _ l0 true rfl w (Kd.C_of_reads (d := (0 : Int)) (h1 := fun _ => rfl) hr0) hc0 h).mono ?_
  rintro e w' ⟨rfl, hd⟩
  exact ⟨rfl, hd⟩

end Go.Proofs.Ytigplfheldfciaa.PFnTurns
