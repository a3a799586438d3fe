/- Functions that the statement reaches, as Lean functions, and the proof that a call of each comes to just its answer; written by this claim's own program. No conditions. -/
import Derived.Test.YtacbkcofcbglhaaGFnBudget0
namespace Go.Proofs.Ytacbkcofcbglhaa.PFnBudget
open Go.RowKit Go.Proofs.YtacbkcofcbglhaaW.PrintWords Go.Proofs.YtacbkcofcbglhaaW.PrintLast Go.Proofs.YtacbkcofcbglhaaW.PrintMore Go.Proofs.Ytacbkcofcbglhaa.XW Go.Proofs.Ytacbkcofcbglhaa.XOp Go.Proofs.Ytacbkcofcbglhaa.XSt Go.Proofs.Ytacbkcofcbglhaa.XDraw
set_option linter.unusedVariables false
set_option linter.unusedSimpArgs false
set_option maxHeartbeats 4000000
set_option maxRecDepth 20000
def spec_l10Right.b4 (t5 : Int × S140) (t31 : Int × S140) (i40 : Int) (rec_ : (List Int) → Int → Option ((List Int) × Int)) (k572 : Nat) (xs551 : List Int) (i554 : Int) : Option ((List Int) × Int) := (if i554 < (wrap64 (4 * (wrap64 (1 + t5.1)))) then (if (xs551.length) < 4294967296 then (rec_ (xs551 ++ [wrap64 ((Int.tmod (wrap64 ((wrap64 ((wrap64 (t31.1 + (wrap64 (i40 * 37)))) + (wrap64 (i554 * 91)))) + (wrap64 ((wrap64 (i40 * i554)) * 13)))) 255) - 127)]) (wrap64 (i554 + 1))) else none) else (some (xs551, i554)))
def spec_l10Right.l4 (t5 : Int × S140) (t31 : Int × S140) (i40 : Int) : Nat → (List Int) → Int → Option ((List Int) × Int)
  | 0, _, _ => none
  | k + 1, xs551, i554 => spec_l10Right.b4 t5 t31 i40 (spec_l10Right.l4 t5 t31 i40 k) k xs551 i554
def spec_l10Right.b3 (t5 : Int × S140) (t27 : Int) (t31 : Int × S140) (rec_ : Int → (List (List Int)) → Option (Int × (List (List Int)))) (k537 : Nat) (i40 : Int) (xs41 : List (List Int)) : Option (Int × (List (List Int))) := (if i40 < t27 then ((spec_l10Right.l4 t5 t31 i40 k537 ([] : List Int) 0).bind (fun o570 => (if (xs41.length) < 4294967296 then (rec_ (wrap64 (i40 + 1)) (xs41 ++ [o570.1])) else none))) else (some (i40, xs41)))
def spec_l10Right.l3 (t5 : Int × S140) (t27 : Int) (t31 : Int × S140) : Nat → Int → (List (List Int)) → Option (Int × (List (List Int)))
  | 0, _, _ => none
  | k + 1, i40, xs41 => spec_l10Right.b3 t5 t27 t31 (spec_l10Right.l3 t5 t27 t31 k) k i40 xs41
def spec_l10Right.b2 (x0 : S140) (t5 : Int × S140) (rec_ : Int → Int → Int → (List S48) → Option (Int × Int × Int × (List S48))) (k213 : Nat) (i52 : Int) (i53 : Int) (i54 : Int) (xs55 : List S48) : Option (Int × Int × Int × (List S48)) := ((spec_l01Below.g k213 (⟨x0.f0, i53, i54⟩ : S140) 2).bind fun t216 => (if i52 < (wrap64 (1 + t216.1)) then ((spec_l01Below.g k213 (⟨x0.f0, t216.2.f1, t216.2.f2⟩ : S140) 2).bind fun t222 => ((spec_l10Gain.g k213 (⟨x0.f0, t222.2.f1, t222.2.f2⟩ : S140) (wrap64 (4 * (wrap64 (1 + t5.1))))).bind fun t227 => ((spec_l10Gain.g k213 (⟨x0.f0, t227.2.f1, t227.2.f2⟩ : S140) (wrap64 (4 * (wrap64 (1 + t5.1))))).bind fun t234 => ((spec_l05Matrix.g k213 (⟨x0.f0, t234.2.f1, t234.2.f2⟩ : S140) (wrap64 (4 * (wrap64 (1 + t5.1)))) (wrap64 (4 * (wrap64 (1 + t5.1))))).bind fun t245 => ((spec_l05Matrix.g k213 (⟨x0.f0, t245.2.f1, t245.2.f2⟩ : S140) (wrap64 (4 * (wrap64 (1 + t5.1)))) (wrap64 (4 * (wrap64 (1 + t5.1))))).bind fun t258 => ((spec_l05Matrix.g k213 (⟨x0.f0, t258.2.f1, t258.2.f2⟩ : S140) (wrap64 (4 * (wrap64 (1 + t5.1)))) (wrap64 (4 * (wrap64 (1 + t5.1))))).bind fun t271 => ((spec_l05Matrix.g k213 (⟨x0.f0, t271.2.f1, t271.2.f2⟩ : S140) (wrap64 (4 * (wrap64 (1 + t5.1)))) (wrap64 (4 * (wrap64 (1 + t5.1))))).bind fun t284 => ((spec_l05Matrix.g k213 (⟨x0.f0, t284.2.f1, t284.2.f2⟩ : S140) (wrap64 (4 * (wrap64 (1 + t5.1)))) (wrap64 (4 * (wrap64 (1 + t222.1))))).bind fun t297 => ((spec_l05Matrix.g k213 (⟨x0.f0, t297.2.f1, t297.2.f2⟩ : S140) (wrap64 (4 * (wrap64 (1 + t222.1)))) (wrap64 (4 * (wrap64 (1 + t5.1))))).bind fun t310 => (if (xs55.length) < 4294967296 then (rec_ (wrap64 (i52 + 1)) t310.2.f1 t310.2.f2 (xs55 ++ [(⟨t227.1, (⟨t245.1.f0, t245.1.f1, t245.1.f2, t245.1.f3, t245.1.f4⟩ : S36), (⟨t258.1.f0, t258.1.f1, t258.1.f2, t258.1.f3, t258.1.f4⟩ : S36), (⟨t271.1.f0, t271.1.f1, t271.1.f2, t271.1.f3, t271.1.f4⟩ : S36), (⟨t284.1.f0, t284.1.f1, t284.1.f2, t284.1.f3, t284.1.f4⟩ : S36), t234.1, (⟨t297.1.f0, t297.1.f1, t297.1.f2, t297.1.f3, t297.1.f4⟩ : S36), (⟨t310.1.f0, t310.1.f1, t310.1.f2, t310.1.f3, t310.1.f4⟩ : S36)⟩ : S48)])) else none)))))))))) else (some (i52, t216.2.f1, t216.2.f2, xs55))))
def spec_l10Right.l2 (x0 : S140) (t5 : Int × S140) : Nat → Int → Int → Int → (List S48) → Option (Int × Int × Int × (List S48))
  | 0, _, _, _, _ => none
  | k + 1, i52, i53, i54, xs55 => spec_l10Right.b2 x0 t5 (spec_l10Right.l2 x0 t5 k) k i52 i53 i54 xs55
def spec_l10Right.b1 (t5 : Int × S140) (t31 : Int × S140) (t72 : Int × S140) (i81 : Int) (rec_ : (List Int) → (List Int) → Int → Option ((List Int) × (List Int) × Int)) (k180 : Nat) (xs142 : List Int) (xs145 : List Int) (i148 : Int) : Option ((List Int) × (List Int) × Int) := (if i148 < (wrap64 (4 * (wrap64 (1 + t5.1)))) then (((if (xs142.length) < 4294967296 then (if (Int.tmod i148 4) = 0 then (if (xs145.length) < 4294967296 then (some ((xs142 ++ [wrap64 ((Int.tmod (wrap64 ((wrap64 ((wrap64 (t31.1 + (wrap64 (i81 * (wrap64 (1 + t72.1)))))) + (wrap64 (i148 * 7)))) + (wrap64 (i81 * i148)))) 16) - 8)]), (xs145 ++ [wrap64 (1 + (Int.tmod (wrap64 ((wrap64 ((wrap64 (i81 * 3)) + i148)) + t31.1)) 30))]))) else none) else (some ((xs142 ++ [wrap64 ((Int.tmod (wrap64 ((wrap64 ((wrap64 (t31.1 + (wrap64 (i81 * (wrap64 (1 + t72.1)))))) + (wrap64 (i148 * 7)))) + (wrap64 (i81 * i148)))) 16) - 8)]), xs145))) else none) : Option ((List Int) × (List Int))).bind (fun o197 => (rec_ o197.1 o197.2 (wrap64 (i148 + 1))))) else (some (xs142, xs145, i148)))
def spec_l10Right.l1 (t5 : Int × S140) (t31 : Int × S140) (t72 : Int × S140) (i81 : Int) : Nat → (List Int) → (List Int) → Int → Option ((List Int) × (List Int) × Int)
  | 0, _, _, _ => none
  | k + 1, xs142, xs145, i148 => spec_l10Right.b1 t5 t31 t72 i81 (spec_l10Right.l1 t5 t31 t72 i81 k) k xs142 xs145 i148
def spec_l10Right.b0 (t5 : Int × S140) (t27 : Int) (t31 : Int × S140) (t72 : Int × S140) (rec_ : Int → (List (List Int)) → (List (List Int)) → Option (Int × (List (List Int)) × (List (List Int)))) (k125 : Nat) (i81 : Int) (xs82 : List (List Int)) (xs85 : List (List Int)) : Option (Int × (List (List Int)) × (List (List Int))) := (if i81 < t27 then ((spec_l10Right.l1 t5 t31 t72 i81 k125 ([] : List Int) ([] : List Int) 0).bind (fun o178 => (if (xs82.length) < 4294967296 then (if (xs85.length) < 4294967296 then (rec_ (wrap64 (i81 + 1)) (xs82 ++ [o178.1]) (xs85 ++ [o178.2.1])) else none) else none))) else (some (i81, xs82, xs85)))
def spec_l10Right.l0 (t5 : Int × S140) (t27 : Int) (t31 : Int × S140) (t72 : Int × S140) : Nat → Int → (List (List Int)) → (List (List Int)) → Option (Int × (List (List Int)) × (List (List Int)))
  | 0, _, _, _ => none
  | k + 1, i81, xs82, xs85 => spec_l10Right.b0 t5 t27 t31 t72 (spec_l10Right.l0 t5 t27 t31 t72 k) k i81 xs82 xs85
def spec_l10Right.g (k : Nat) (x0 : S140) : Option (S39 × S140) := ((spec_l01Below.g k (⟨x0.f0, x0.f1, x0.f2⟩ : S140) 2).bind fun t5 => ((spec_l01Below.g k (⟨x0.f0, t5.2.f1, t5.2.f2⟩ : S140) 2).bind fun t8 => ((spec_l01Below.g k (⟨x0.f0, t8.2.f1, t8.2.f2⟩ : S140) 15).bind fun t11 => ((spec_l07Merges.g k (⟨x0.f0, t11.2.f1, t11.2.f2⟩ : S140)).bind fun t18 => ((spec_Vocab.g k (⟨wrap64 (4 * (wrap64 (1 + t5.1))), wrap64 (1 + t8.1), wrap64 (4 + t11.1), t18.1, [], [], [], (⟨0, [], [], 0, 0⟩ : S36), (⟨[], []⟩ : S37)⟩ : S39)).bind fun t27 => ((spec_l01Below.g k (⟨x0.f0, t18.2.f1, t18.2.f2⟩ : S140) 1000).bind fun t31 => ((spec_l10Right.l3 t5 t27 t31 k 0 ([] : List (List Int))).bind (fun o535 => ((spec_l10Right.l2 x0 t5 k 0 t31.2.f1 t31.2.f2 ([] : List S48)).bind (fun o211 => ((spec_l10Gain.g k (⟨x0.f0, o211.2.1, o211.2.2.1⟩ : S140) (wrap64 (4 * (wrap64 (1 + t5.1))))).bind fun t61 => ((spec_l01Below.g k (⟨x0.f0, t61.2.f1, t61.2.f2⟩ : S140) 40).bind fun t72 => ((spec_l10Right.l0 t5 t27 t31 t72 k 0 ([] : List (List Int)) ([] : List (List Int))).bind (fun o123 => (if (wrap64 (1 + t8.1)) ≠ 0 then ((spec_TurnsFor.f k (wrap64 (4 + t11.1)) (wrap64 (Int.tdiv (wrap64 (Int.tdiv (wrap64 (4 * (wrap64 (1 + t5.1)))) (wrap64 (1 + t8.1)))) 2))).bind fun t93 => (some ((⟨wrap64 (4 * (wrap64 (1 + t5.1))), wrap64 (1 + t8.1), wrap64 (4 + t11.1), t18.1, o535.2, o211.2.2.2, t61.1, (⟨wrap64 (4 * (wrap64 (1 + t5.1))), o123.2.1, o123.2.2, 1, 1⟩ : S36), (⟨t93.1, t93.2.1⟩ : S37)⟩ : S39), (⟨x0.f0, t72.2.f1, t72.2.f2⟩ : S140)))) else none)))))))))))))))
theorem spec_l10Right.runs (k : Nat) (b0 : Nat) (x0 : S140) (A0_0 : Option Addr) (c0_0 : Nat) (bs_ : List Nat) (r1 : S39) (y_ : S140) (w0 w : World) (hB_ : Below w0.heap.size w0 w) (hn_ : (b0 :: bs_).Nodup) (hl_ : ∀ k, k ∈ b0 :: bs_ → w0.heap.size ≤ k ∧ k < w.heap.size) (hr0_0 : Foot (fun W => (Kd.int .u8).C W A0_0 x0.f0.length x0.f0) w (fun k_ => k_ ∉ b0 :: bs_)) (hc0_0 : x0.f0.length ≤ c0_0) (hb0 : w.heap[b0]? = some (.cells #[.slice A0_0 x0.f0.length c0_0, .int .i64 x0.f1, .int .i64 x0.f2] 140 (0, 0))) (H : spec_l10Right.g k x0 = some (r1, y_)) :
    Calls Try.prog 79 #[.pointer (some ⟨b0, 0, none⟩)] w fun e w' => ∃ (cs0_ : List Value), e = .returned (.agg cs0_.toArray) ∧ Foot (fun W => k39.K W r1 cs0_) w' (fun k_ => w0.heap.size ≤ k_ ∧ k_ ∉ b0 :: bs_) ∧ w'.heap[b0]? = some (.cells #[.slice A0_0 x0.f0.length c0_0, .int .i64 y_.f1, .int .i64 y_.f2] 140 (0, 0)) ∧ RestOf w w' b0 ∧ Below w0.heap.size w0 w' := by
  unfold spec_l10Right.g at H
  have HS : St (fun _ => True) w0 w [boxM b0 #[.slice A0_0 x0.f0.length c0_0, .int .i64 x0.f1, .int .i64 x0.f2] 140, keepM w bs_] [(frameF w b0 bs_), (fun W => (Kd.int .u8).C W A0_0 x0.f0.length x0.f0)] [] := St.startM hB_ hn_ hl_ hb0 (foot_cons hr0_0 foot_nil)
  refine cw_ (n := 222) Try.func79 fun R_ hR_ => ?_
  refine sr_ fun _ hK1 => ?_
  refine WL.alloc HS (v := .agg #[.int .i64 0, .int .i64 0, .int .i64 0, .slice none 0 0, .slice none 0 0, .slice none 0 0, .slice none 0 0, .int .i64 0, .slice none 0 0, .slice none 0 0, .int .i64 0, .int .i64 0, .slice none 0 0, .slice none 0 0]) (cs := #[.int .i64 0, .int .i64 0, .int .i64 0, .slice none 0 0, .slice none 0 0, .slice none 0 0, .slice none 0 0, .int .i64 0, .slice none 0 0, .slice none 0 0, .int .i64 0, .int .i64 0, .slice none 0 0, .slice none 0 0]) rfl rfl (by decide) rfl (by kernel_rfl) rfl (fun b2 w3 hb2 HS => ?_)
  refine dn_ hK1 ?_
  exact by (
  clear hK1
  refine sr_ fun _ hK4 => ?_
  refine mv_ ?_
  obtain ⟨t5, ha6, H⟩ := bind_some H
  refine c_ Try.func80 (spec_l01Below.runs k b0 (⟨x0.f0, x0.f1, x0.f2⟩ : S140) A0_0 c0_0 2 _ t5.1 t5.2 _ _ HS.b (HS.nodupM 1 rfl) (HS.boundM 1 rfl) (HS.footOM 1 rfl 1 rfl) hc0_0 (HS.mu 1 rfl) ha6) ?_
  clear ha6
  exact by (
  rintro _ w7 ⟨rfl, hbx_, hrest_, hB1_⟩
  replace HS := HS.calledM 1 rfl hB1_ hrest_ hbx_
  dsimp only [List.set] at HS
  clear hB1_ hrest_ hbx_
  refine ⟨_, rfl, ?_⟩
  refine b_ bin_add64 ?_
  exact by (
  refine b_ bin_mul64 ?_
  refine mv_ ?_
  obtain ⟨t8, ha9, H⟩ := bind_some H
  refine c_ Try.func80 (spec_l01Below.runs k b0 (⟨x0.f0, t5.2.f1, t5.2.f2⟩ : S140) A0_0 c0_0 2 _ t8.1 t8.2 _ _ HS.b (HS.nodupM 1 rfl) (HS.boundM 1 rfl) (HS.footOM 1 rfl 1 rfl) hc0_0 (HS.mu 1 rfl) ha9) ?_
  clear ha9
  rintro _ w10 ⟨rfl, hbx_, hrest_, hB1_⟩
  exact by (
  replace HS := HS.calledM 1 rfl hB1_ hrest_ hbx_
  dsimp only [List.set] at HS
  clear hB1_ hrest_ hbx_
  refine ⟨_, rfl, ?_⟩
  refine b_ bin_add64 ?_
  refine mv_ ?_
  exact by (
  obtain ⟨t11, ha12, H⟩ := bind_some H
  refine c_ Try.func80 (spec_l01Below.runs k b0 (⟨x0.f0, t8.2.f1, t8.2.f2⟩ : S140) A0_0 c0_0 15 _ t11.1 t11.2 _ _ HS.b (HS.nodupM 1 rfl) (HS.boundM 1 rfl) (HS.footOM 1 rfl 1 rfl) hc0_0 (HS.mu 1 rfl) ha12) ?_
  clear ha12
  rintro _ w13 ⟨rfl, hbx_, hrest_, hB1_⟩
  replace HS := HS.calledM 1 rfl hB1_ hrest_ hbx_
  dsimp only [List.set] at HS
  exact by (
  clear hB1_ hrest_ hbx_
  refine ⟨_, rfl, ?_⟩
  refine b_ bin_add64 ?_
  refine v_ (Run.build (cells := #[.int .i64 (wrap64 (4 * (wrap64 (1 + t5.1)))), .int .i64 (wrap64 (1 + t8.1)), .int .i64 (wrap64 (4 + t11.1)), .slice none 0 0, .slice none 0 0, .slice none 0 0, .slice none 0 0, .int .i64 0, .slice none 0 0, .slice none 0 0, .int .i64 0, .int .i64 0, .slice none 0 0, .slice none 0 0]) rfl [(0, .int .i64 (wrap64 (4 * (wrap64 (1 + t5.1))))), (1, .int .i64 (wrap64 (1 + t8.1))), (2, .int .i64 (wrap64 (4 + t11.1)))] ⟨⟨rfl, rfl⟩, ⟨⟨rfl, rfl⟩, ⟨⟨rfl, rfl⟩, trivial⟩⟩⟩ (by kernel_rfl)) ?_
  refine WL.alloc HS (v := .agg #[.int .i64 0, .int .i64 0, .int .i64 0, .slice none 0 0, .slice none 0 0, .slice none 0 0, .slice none 0 0, .int .i64 0, .slice none 0 0, .slice none 0 0, .int .i64 0, .int .i64 0, .slice none 0 0, .slice none 0 0]) (cs := #[.int .i64 0, .int .i64 0, .int .i64 0, .slice none 0 0, .slice none 0 0, .slice none 0 0, .slice none 0 0, .int .i64 0, .slice none 0 0, .slice none 0 0, .int .i64 0, .int .i64 0, .slice none 0 0, .slice none 0 0]) rfl rfl (by decide) rfl (by kernel_rfl) rfl (fun b14 w15 hb14 HS => ?_)
  refine WL.storeS HS 0 (vs := [.int .i64 (wrap64 (4 * (wrap64 (1 + t5.1)))), .int .i64 (wrap64 (1 + t8.1)), .int .i64 (wrap64 (4 + t11.1)), .slice none 0 0, .slice none 0 0, .slice none 0 0, .slice none 0 0, .int .i64 0, .slice none 0 0, .slice none 0 0, .int .i64 0, .int .i64 0, .slice none 0 0, .slice none 0 0]) rfl rfl rfl rfl rfl rfl (one_cons rfl (one_cons rfl (one_cons rfl (one_cons rfl (one_cons rfl (one_cons rfl (one_cons rfl (one_cons rfl (one_cons rfl (one_cons rfl (one_cons rfl (one_cons rfl (one_cons rfl (one_cons rfl one_nil)))))))))))))) (by kernel_rfl) (Nat.le_of_ble_eq_true rfl) (cs' := #[.int .i64 (wrap64 (4 * (wrap64 (1 + t5.1)))), .int .i64 (wrap64 (1 + t8.1)), .int .i64 (wrap64 (4 + t11.1)), .slice none 0 0, .slice none 0 0, .slice none 0 0, .slice none 0 0, .int .i64 0, .slice none 0 0, .slice none 0 0, .int .i64 0, .int .i64 0, .slice none 0 0, .slice none 0 0]) (by kernel_rfl) (fun w16 HS => ?_)
  exact by (
  dsimp only [List.set] at HS
  refine dn_ hK4 ?_
  clear hK4
  refine sr_ fun _ hK17 => ?_
  refine mv_ ?_
  obtain ⟨t18, ha19, H⟩ := bind_some H
  exact by (
  refine c_ Try.func129 (spec_l07Merges.runs k b0 (⟨x0.f0, t11.2.f1, t11.2.f2⟩ : S140) A0_0 c0_0 _ t18.1 t18.2 _ _ HS.b (HS.nodupM 2 rfl) (HS.boundM 2 rfl) (HS.footOM 2 rfl 1 rfl) hc0_0 (HS.mu 2 rfl) ha19) ?_
  clear ha19
  rintro _ w20 ⟨A21, c22, rfl, le23, hf24, hbx_, hrest_, hB1_⟩
  replace HS := HS.newM 2 rfl hB1_ hrest_ hbx_ (foot_cons hf24 foot_nil)
  dsimp only [List.set] at HS
  clear hB1_ hrest_ hbx_
  exact by (
  refine ⟨_, rfl, ?_⟩
  refine v_ (fa_ Try.underlying39) ?_
  refine WL.store HS 0 rfl rfl rfl rfl rfl rfl rfl (by kernel_rfl) (Nat.le_of_ble_eq_true rfl) (cs' := #[.int .i64 (wrap64 (4 * (wrap64 (1 + t5.1)))), .int .i64 (wrap64 (1 + t8.1)), .int .i64 (wrap64 (4 + t11.1)), .slice A21 t18.1.length c22, .slice none 0 0, .slice none 0 0, .slice none 0 0, .int .i64 0, .slice none 0 0, .slice none 0 0, .int .i64 0, .int .i64 0, .slice none 0 0, .slice none 0 0]) (by kernel_rfl) (fun w25 HS => ?_)
  dsimp only [List.set] at HS
  refine dn_ hK17 ?_
  clear hK17
  exact by (
  refine sr_ fun _ hK26 => ?_
  refine v_ (ls_ (HS.mu 0 rfl) Try.underlying39 part_all) ?_
  replace HS := HS.deriveN (p := (fun W => k39.K W (⟨wrap64 (4 * (wrap64 (1 + t5.1))), wrap64 (1 + t8.1), wrap64 (4 + t11.1), t18.1, [], [], [], (⟨0, [], [], 0, 0⟩ : S36), (⟨[], []⟩ : S37)⟩ : S39) [.int .i64 (wrap64 (4 * (wrap64 (1 + t5.1)))), .int .i64 (wrap64 (1 + t8.1)), .int .i64 (wrap64 (4 + t11.1)), .slice A21 t18.1.length c22, .slice none 0 0, .slice none 0 0, .slice none 0 0, .int .i64 0, .slice none 0 0, .slice none 0 0, .int .i64 0, .int .i64 0, .slice none 0 0, .slice none 0 0])) (fun W_ hN_ => (k39_mk _ (⟨wrap64 (4 * (wrap64 (1 + t5.1))), wrap64 (1 + t8.1), wrap64 (4 + t11.1), t18.1, [], [], [], (⟨0, [], [], 0, 0⟩ : S36), (⟨[], []⟩ : S37)⟩ : S39) (le23) (AllF.get 0 rfl hN_) ((Nat.le_refl _)) (Kd.C_nil _ _) ((Nat.le_refl _)) (Kd.C_nil _ _) ((Nat.le_refl _)) (Kd.C_nil _ _) ((Nat.le_refl _)) (Kd.C_nil _ _) ((Nat.le_refl _)) (Kd.C_nil _ _) ((Nat.le_refl _)) (Kd.C_nil _ _) ((Nat.le_refl _)) (Kd.C_nil _ _)))
  obtain ⟨t27, ha28, H⟩ := bind_some H
  refine cs_ HS Try.func15 (spec_Vocab.runs k ([.int .i64 (wrap64 (4 * (wrap64 (1 + t5.1)))), .int .i64 (wrap64 (1 + t8.1)), .int .i64 (wrap64 (4 + t11.1)), .slice A21 t18.1.length c22, .slice none 0 0, .slice none 0 0, .slice none 0 0, .int .i64 0, .slice none 0 0, .slice none 0 0, .int .i64 0, .int .i64 0, .slice none 0 0, .slice none 0 0]) (⟨wrap64 (4 * (wrap64 (1 + t5.1))), wrap64 (1 + t8.1), wrap64 (4 + t11.1), t18.1, [], [], [], (⟨0, [], [], 0, 0⟩ : S36), (⟨[], []⟩ : S37)⟩ : S39) t27 _ (HS.getN 0 rfl) ha28) (fun w29 HS => ?_)
  clear ha28
  exact by (
  refine as_ ?_
  refine dn_ hK26 ?_
  clear hK26
  refine sr_ fun _ hK30 => ?_
  refine mv_ ?_
  obtain ⟨t31, ha32, H⟩ := bind_some H
  exact by (
  refine c_ Try.func80 (spec_l01Below.runs k b0 (⟨x0.f0, t18.2.f1, t18.2.f2⟩ : S140) A0_0 c0_0 1000 _ t31.1 t31.2 _ _ HS.b (HS.nodupM 2 rfl) (HS.boundM 2 rfl) (HS.footOM 2 rfl 1 rfl) hc0_0 (HS.mu 2 rfl) ha32) ?_
  clear ha32
  rintro _ w33 ⟨rfl, hbx_, hrest_, hB1_⟩
  replace HS := HS.calledM 2 rfl hB1_ hrest_ hbx_
  dsimp only [List.set] at HS
  clear hB1_ hrest_ hbx_
  exact by (
  refine ⟨_, rfl, ?_⟩
  refine as_ ?_
  refine dn_ hK30 ?_
  clear hK30
  refine WC.seq fun K34 hK34 => ?_
  refine sr_ fun _ hK35 => ?_
  exact by (
  refine as_ ?_
  refine dn_ hK35 ?_
  clear hK35
  refine WC.block ?_
  replace HS := HS.rowNil 25 1
  replace HS := HS.deriveN (p := (fun W => Reps ((Kd.slice 3 (Kd.int .i64)).K W) (Kd.slice 3 (Kd.int .i64)).sz ([] : List (List Int)) [])) (fun _ _ => Reps.none _ _)
  exact by (
  obtain ⟨G36, hG37, o38, H, Ho39⟩ := open_G H
  have X44 : ∀ E_ W_, (∃ (i40 : Int) (xs41 : List (List Int)) (v42 : Value) (I43 : List Value), E_ = [(0, .pointer (some ⟨b0, 0, none⟩)), (2, .pointer (some ⟨b2, 0, none⟩)), (3, .pointer (some ⟨b14, 0, none⟩)), (4, .int .i64 t27), (5, .int .i64 t31.1), (6, .int .i64 i40)] ∧ G36 (i40, xs41) = some (r1, y_) ∧ St (fun _ => True) w0 W_ [rowM w0.heap.size 25 1 v42 xs41.length I43, boxM b14 #[.int .i64 (wrap64 (4 * (wrap64 (1 + t5.1)))), .int .i64 (wrap64 (1 + t8.1)), .int .i64 (wrap64 (4 + t11.1)), .slice A21 t18.1.length c22, v42, .slice none 0 0, .slice none 0 0, .int .i64 0, .slice none 0 0, .slice none 0 0, .int .i64 0, .int .i64 0, .slice none 0 0, .slice none 0 0] 39, boxM b2 #[.int .i64 0, .int .i64 0, .int .i64 0, .slice none 0 0, .slice none 0 0, .slice none 0 0, .slice none 0 0, .int .i64 0, .slice none 0 0, .slice none 0 0, .int .i64 0, .int .i64 0, .slice none 0 0, .slice none 0 0] 39, boxM b0 #[.slice A0_0 x0.f0.length c0_0, .int .i64 t31.2.f1, .int .i64 t31.2.f2] 140, keepM w bs_] [(frameF w b0 bs_), (fun W => (Kd.int .u8).C W A0_0 x0.f0.length x0.f0)] [(fun W => Reps ((Kd.slice 3 (Kd.int .i64)).K W) (Kd.slice 3 (Kd.int .i64)).sz xs41 I43), (fun W => k112.C W A21 t18.1.length t18.1)]) → ∀ a, Fits a 222 E_ → K34 a W_ := by
    rintro E_ w45 ⟨i40, xs41, v42, I43, rfl, H, HS⟩
    rw [hG37] at H
    (try dsimp only at H)
    refine hK34 _ _ ?_
    exact by (
    clear hK34
    refine WC.seq fun K46 hK46 => ?_
    refine sr_ fun _ hK47 => ?_
    refine as_ ?_
    refine dn_ hK47 ?_
    clear hK47
    exact by (
    refine WC.block ?_
    replace HS := HS.rowNil 48 32
    replace HS := HS.deriveN (p := (fun W => Reps (k48.K W) k48.sz ([] : List S48) [])) (fun _ _ => Reps.none _ _)
    obtain ⟨G48, hG49, o50, H, Ho51⟩ := open_G H
    have X58 : ∀ E_ W_, (∃ (i52 : Int) (i53 : Int) (i54 : Int) (xs55 : List S48) (v56 : Value) (I57 : List Value), E_ = [(0, .pointer (some ⟨b0, 0, none⟩)), (2, .pointer (some ⟨b2, 0, none⟩)), (3, .pointer (some ⟨b14, 0, none⟩)), (4, .int .i64 t27), (5, .int .i64 t31.1), (9, .int .i64 i52)] ∧ G48 (i52, i53, i54, xs55) = some (r1, y_) ∧ St (fun _ => True) w0 W_ [rowM w0.heap.size 48 32 v56 xs55.length I57, rowM w0.heap.size 25 1 v42 xs41.length I43, boxM b14 #[.int .i64 (wrap64 (4 * (wrap64 (1 + t5.1)))), .int .i64 (wrap64 (1 + t8.1)), .int .i64 (wrap64 (4 + t11.1)), .slice A21 t18.1.length c22, v42, v56, .slice none 0 0, .int .i64 0, .slice none 0 0, .slice none 0 0, .int .i64 0, .int .i64 0, .slice none 0 0, .slice none 0 0] 39, boxM b2 #[.int .i64 0, .int .i64 0, .int .i64 0, .slice none 0 0, .slice none 0 0, .slice none 0 0, .slice none 0 0, .int .i64 0, .slice none 0 0, .slice none 0 0, .int .i64 0, .int .i64 0, .slice none 0 0, .slice none 0 0] 39, boxM b0 #[.slice A0_0 x0.f0.length c0_0, .int .i64 i53, .int .i64 i54] 140, keepM w bs_] [(frameF w b0 bs_), (fun W => (Kd.int .u8).C W A0_0 x0.f0.length x0.f0)] [(fun W => Reps (k48.K W) k48.sz xs55 I57), (fun W => Reps ((Kd.slice 3 (Kd.int .i64)).K W) (Kd.slice 3 (Kd.int .i64)).sz xs41 I43), (fun W => k112.C W A21 t18.1.length t18.1)]) → ∀ a, Fits a 222 E_ → K46 a W_ := by
      rintro E_ w59 ⟨i52, i53, i54, xs55, v56, I57, rfl, H, HS⟩
      exact by (
      rw [hG49] at H
      (try dsimp only at H)
      refine hK46 _ _ ?_
      clear hK46
      refine sr_ fun _ hK60 => ?_
      refine mv_ ?_
      exact by (
      refine v_ (fa_ Try.underlying39) ?_
      refine v_ (lb_ (HS.mu 2 rfl) Try.underlying3 rfl) ?_
      obtain ⟨t61, ha62, H⟩ := bind_some H
      refine c_ Try.func130 (spec_l10Gain.runs k b0 (⟨x0.f0, i53, i54⟩ : S140) A0_0 c0_0 (wrap64 (4 * (wrap64 (1 + t5.1)))) _ t61.1 t61.2 _ _ HS.b (HS.nodupM 4 rfl) (HS.boundM 4 rfl) (HS.footOM 4 rfl 1 rfl) hc0_0 (HS.mu 4 rfl) ha62) ?_
      clear ha62
      rintro _ w63 ⟨A64, c65, rfl, le66, hf67, hbx_, hrest_, hB1_⟩
      exact by (
      replace HS := HS.newM 4 rfl hB1_ hrest_ hbx_ (foot_cons hf67 foot_nil)
      dsimp only [List.set] at HS
      clear hB1_ hrest_ hbx_
      refine ⟨_, rfl, ?_⟩
      refine v_ (fa_ Try.underlying39) ?_
      refine WL.store HS 2 rfl rfl rfl rfl rfl rfl rfl (by kernel_rfl) (Nat.le_of_ble_eq_true rfl) (cs' := #[.int .i64 (wrap64 (4 * (wrap64 (1 + t5.1)))), .int .i64 (wrap64 (1 + t8.1)), .int .i64 (wrap64 (4 + t11.1)), .slice A21 t18.1.length c22, v42, v56, .slice A64 t61.1.length c65, .int .i64 0, .slice none 0 0, .slice none 0 0, .int .i64 0, .int .i64 0, .slice none 0 0, .slice none 0 0]) (by kernel_rfl) (fun w68 HS => ?_)
      exact by (
      dsimp only [List.set] at HS
      refine dn_ hK60 ?_
      clear hK60
      refine sr_ fun _ hK69 => ?_
      refine v_ (fa_ Try.underlying39) ?_
      refine v_ (lb_ (HS.mu 2 rfl) Try.underlying3 rfl) ?_
      exact by (
      refine v_ (Run.build (cells := #[.int .i64 (wrap64 (4 * (wrap64 (1 + t5.1)))), .slice none 0 0, .slice none 0 0, .int .i64 1, .int .i64 1]) rfl [(0, .int .i64 (wrap64 (4 * (wrap64 (1 + t5.1))))), (3, .int .i64 1), (4, .int .i64 1)] ⟨⟨rfl, rfl⟩, ⟨⟨rfl, rfl⟩, ⟨⟨rfl, rfl⟩, trivial⟩⟩⟩ (by kernel_rfl)) ?_
      refine v_ (fa_ Try.underlying39) ?_
      refine WL.storeS HS 2 (vs := [.int .i64 (wrap64 (4 * (wrap64 (1 + t5.1)))), .slice none 0 0, .slice none 0 0, .int .i64 1, .int .i64 1]) rfl rfl rfl rfl rfl rfl (one_cons rfl (one_cons rfl (one_cons rfl (one_cons rfl (one_cons rfl one_nil))))) (by kernel_rfl) (Nat.le_of_ble_eq_true rfl) (cs' := #[.int .i64 (wrap64 (4 * (wrap64 (1 + t5.1)))), .int .i64 (wrap64 (1 + t8.1)), .int .i64 (wrap64 (4 + t11.1)), .slice A21 t18.1.length c22, v42, v56, .slice A64 t61.1.length c65, .int .i64 (wrap64 (4 * (wrap64 (1 + t5.1)))), .slice none 0 0, .slice none 0 0, .int .i64 1, .int .i64 1, .slice none 0 0, .slice none 0 0]) (by kernel_rfl) (fun w70 HS => ?_)
      dsimp only [List.set] at HS
      refine dn_ hK69 ?_
      clear hK69
      exact by (
      refine sr_ fun _ hK71 => ?_
      refine mv_ ?_
      obtain ⟨t72, ha73, H⟩ := bind_some H
      refine c_ Try.func80 (spec_l01Below.runs k b0 (⟨x0.f0, t61.2.f1, t61.2.f2⟩ : S140) A0_0 c0_0 40 _ t72.1 t72.2 _ _ HS.b (HS.nodupM 4 rfl) (HS.boundM 4 rfl) (HS.footOM 4 rfl 1 rfl) hc0_0 (HS.mu 4 rfl) ha73) ?_
      clear ha73
      rintro _ w74 ⟨rfl, hbx_, hrest_, hB1_⟩
      exact by (
      replace HS := HS.calledM 4 rfl hB1_ hrest_ hbx_
      dsimp only [List.set] at HS
      clear hB1_ hrest_ hbx_
      refine ⟨_, rfl, ?_⟩
      refine b_ bin_add64 ?_
      refine as_ ?_
      exact by (
      refine dn_ hK71 ?_
      clear hK71
      refine WC.seq fun K75 hK75 => ?_
      refine sr_ fun _ hK76 => ?_
      refine as_ ?_
      refine dn_ hK76 ?_
      exact by (
      clear hK76
      refine WC.block ?_
      replace HS := HS.rowNil 25 1
      replace HS := HS.deriveN (p := (fun W => Reps ((Kd.slice 3 (Kd.int .i64)).K W) (Kd.slice 3 (Kd.int .i64)).sz ([] : List (List Int)) [])) (fun _ _ => Reps.none _ _)
      replace HS := HS.rowNil 25 1
      replace HS := HS.deriveN (p := (fun W => Reps ((Kd.slice 3 (Kd.int .i64)).K W) (Kd.slice 3 (Kd.int .i64)).sz ([] : List (List Int)) [])) (fun _ _ => Reps.none _ _)
      exact by (
      obtain ⟨G77, hG78, o79, H, Ho80⟩ := open_G H
      have X88 : ∀ E_ W_, (∃ (i81 : Int) (xs82 : List (List Int)) (v83 : Value) (I84 : List Value) (xs85 : List (List Int)) (v86 : Value) (I87 : List Value), E_ = [(2, .pointer (some ⟨b2, 0, none⟩)), (3, .pointer (some ⟨b14, 0, none⟩)), (4, .int .i64 t27), (5, .int .i64 t31.1), (12, .int .i64 (wrap64 (1 + t72.1))), (13, .int .i64 i81)] ∧ G77 (i81, xs82, xs85) = some (r1, y_) ∧ St (fun _ => True) w0 W_ [rowM w0.heap.size 25 1 v86 xs85.length I87, rowM w0.heap.size 25 1 v83 xs82.length I84, rowM w0.heap.size 48 32 v56 xs55.length I57, rowM w0.heap.size 25 1 v42 xs41.length I43, boxM b14 #[.int .i64 (wrap64 (4 * (wrap64 (1 + t5.1)))), .int .i64 (wrap64 (1 + t8.1)), .int .i64 (wrap64 (4 + t11.1)), .slice A21 t18.1.length c22, v42, v56, .slice A64 t61.1.length c65, .int .i64 (wrap64 (4 * (wrap64 (1 + t5.1)))), v83, v86, .int .i64 1, .int .i64 1, .slice none 0 0, .slice none 0 0] 39, boxM b2 #[.int .i64 0, .int .i64 0, .int .i64 0, .slice none 0 0, .slice none 0 0, .slice none 0 0, .slice none 0 0, .int .i64 0, .slice none 0 0, .slice none 0 0, .int .i64 0, .int .i64 0, .slice none 0 0, .slice none 0 0] 39, boxM b0 #[.slice A0_0 x0.f0.length c0_0, .int .i64 t72.2.f1, .int .i64 t72.2.f2] 140, keepM w bs_] [(frameF w b0 bs_), (fun W => (Kd.int .u8).C W A0_0 x0.f0.length x0.f0)] [(fun W => Reps ((Kd.slice 3 (Kd.int .i64)).K W) (Kd.slice 3 (Kd.int .i64)).sz xs85 I87), (fun W => Reps ((Kd.slice 3 (Kd.int .i64)).K W) (Kd.slice 3 (Kd.int .i64)).sz xs82 I84), (fun W => (Kd.int .i64).C W A64 t61.1.length t61.1), (fun W => Reps (k48.K W) k48.sz xs55 I57), (fun W => Reps ((Kd.slice 3 (Kd.int .i64)).K W) (Kd.slice 3 (Kd.int .i64)).sz xs41 I43), (fun W => k112.C W A21 t18.1.length t18.1)]) → ∀ a, Fits a 222 E_ → K75 a W_ := by
        rintro E_ w89 ⟨i81, xs82, v83, I84, xs85, v86, I87, rfl, H, HS⟩
        rw [hG78] at H
        (try dsimp only at H)
        refine hK75 _ _ ?_
        exact by (
        clear hK75
        refine WC.seq fun _ hK90 => ?_
        refine WC.drawW HS [rowM w0.heap.size 25 1 v86 xs85.length I87, rowM w0.heap.size 25 1 v83 xs82.length I84, rowM w0.heap.size 48 32 v56 xs55.length I57, rowM w0.heap.size 25 1 v42 xs41.length I43, boxM b14 #[.int .i64 (wrap64 (4 * (wrap64 (1 + t5.1)))), .int .i64 (wrap64 (1 + t8.1)), .int .i64 (wrap64 (4 + t11.1)), .slice A21 t18.1.length c22, v42, v56, .slice A64 t61.1.length c65, .int .i64 (wrap64 (4 * (wrap64 (1 + t5.1)))), v83, v86, .int .i64 1, .int .i64 1, .slice none 0 0, .slice none 0 0] 39, boxM b2 #[.int .i64 0, .int .i64 0, .int .i64 0, .slice none 0 0, .slice none 0 0, .slice none 0 0, .slice none 0 0, .int .i64 0, .slice none 0 0, .slice none 0 0, .int .i64 0, .int .i64 0, .slice none 0 0, .slice none 0 0] 39, boxM b0 #[.slice A0_0 x0.f0.length c0_0, .int .i64 t72.2.f1, .int .i64 t72.2.f2] 140] (fun _ HS => ⟨(HS.mu 0 rfl), (HS.mu 1 rfl), (HS.mu 2 rfl), (HS.mu 3 rfl), (HS.mu 4 rfl), (HS.mu 5 rfl), (HS.mu 6 rfl), trivial⟩) [13] rfl rfl (fun w91 HS => ?_)
        refine df_ 0 Try.underlying39 ?_
        refine df_ 2 Try.underlying39 ?_
        refine df_ 4 Try.underlying39 ?_
        exact by (
        refine dt_ 1 ⟨HS.nowO, HS.nowN, ⟨(HS.mu 0 rfl), (HS.mu 1 rfl), (HS.mu 2 rfl), (HS.mu 3 rfl), (HS.mu 4 rfl), (HS.mu 5 rfl), (HS.mu 6 rfl), trivial⟩⟩ (fun w_ hw_ => Run.load rfl rfl Try.underlying3 rfl (box_cell hw_.2.2.2.2.2.2.1 rfl)) ?_
        refine dt_ 3 ⟨HS.nowO, HS.nowN, ⟨(HS.mu 0 rfl), (HS.mu 1 rfl), (HS.mu 2 rfl), (HS.mu 3 rfl), (HS.mu 4 rfl), (HS.mu 5 rfl), (HS.mu 6 rfl), trivial⟩⟩ (fun w_ hw_ => Run.load rfl rfl Try.underlying3 rfl (box_cell hw_.2.2.2.2.2.2.1 rfl)) ?_
        refine dt_ 5 ⟨HS.nowO, HS.nowN, ⟨(HS.mu 0 rfl), (HS.mu 1 rfl), (HS.mu 2 rfl), (HS.mu 3 rfl), (HS.mu 4 rfl), (HS.mu 5 rfl), (HS.mu 6 rfl), trivial⟩⟩ (fun w_ hw_ => Run.load rfl rfl Try.underlying3 rfl (box_cell hw_.2.2.2.2.2.2.1 rfl)) ?_
        obtain ⟨z92, H⟩ := if_some H
        refine dp_ 6 (fun _ => Run.bin rfl rfl rfl (bin_quo64 z92)) ?_
        refine dp_ 7 (fun _ => Run.bin rfl rfl rfl (bin_quo64 (show (2 : Int) ≠ 0 by decide))) ?_
        exact by (
        obtain ⟨t93, ha94, H⟩ := bind_some H
        refine dc_ 8 (w_none rfl) Try.func95 (spec_TurnsFor.calls k (wrap64 (4 + t11.1)) (wrap64 (Int.tdiv (wrap64 (Int.tdiv (wrap64 (4 * (wrap64 (1 + t5.1)))) (wrap64 (1 + t8.1)))) 2)) t93.1 t93.2.1 t93.2.2 _ ha94) ?_
        clear ha94
        rintro _ w95 ⟨v96, v102, rfl, h97, h103, hb⟩
        obtain ⟨A98, c99, rfl, le100, hf101⟩ := res_S h97
        obtain ⟨A104, c105, rfl, le106, hf107⟩ := res_S h103
        exact by (
        replace HS := HS.newNs hb (foot_cons hf101 (foot_cons hf107 foot_nil))
        refine ⟨⟨HS.nowO, HS.nowN.2.2, ⟨(HS.mu 0 rfl), (HS.mu 1 rfl), (HS.mu 2 rfl), (HS.mu 3 rfl), (HS.mu 4 rfl), (HS.mu 5 rfl), (HS.mu 6 rfl), trivial⟩⟩, _, rfl, ?_⟩
        clear hb
        refine dm_ 9 ?_
        refine dp_ 10 (fun _ => Run.extract rfl rfl rfl) ?_
        refine dp_ 11 (fun _ => Run.extract rfl rfl rfl) ?_
        exact by (
        refine df_ 12 Try.underlying39 ?_
        refine WD.storeSL 13 HS 4 (vs := [.slice A98 t93.1.length c99, .slice A104 t93.2.1.length c105]) rfl rfl rfl rfl (one_cons rfl (one_cons rfl one_nil)) (by kernel_rfl) (Nat.le_of_ble_eq_true rfl) (cs' := #[.int .i64 (wrap64 (4 * (wrap64 (1 + t5.1)))), .int .i64 (wrap64 (1 + t8.1)), .int .i64 (wrap64 (4 + t11.1)), .slice A21 t18.1.length c22, v42, v56, .slice A64 t61.1.length c65, .int .i64 (wrap64 (4 * (wrap64 (1 + t5.1)))), v83, v86, .int .i64 1, .int .i64 1, .slice A98 t93.1.length c99, .slice A104 t93.2.1.length c105]) (by kernel_rfl) (fun w108 HS => ?_)
        dsimp only [List.set] at HS
        refine dd_ ?_
        refine via_ hK90 ?_
        clear hK90
        exact by (
        refine sr_ fun _ hK109 => ?_
        obtain ⟨A110, c111, rfl⟩ := row_slice (HS.mu 3 rfl)
        obtain ⟨A112, c113, rfl⟩ := row_slice (HS.mu 2 rfl)
        obtain ⟨A114, c115, rfl⟩ := row_slice (HS.mu 1 rfl)
        obtain ⟨A116, c117, rfl⟩ := row_slice (HS.mu 0 rfl)
        refine v_ (ls_ (HS.mu 4 rfl) Try.underlying39 part_all) ?_
        exact by (
        refine WL.storeS HS 5 (vs := [.int .i64 (wrap64 (4 * (wrap64 (1 + t5.1)))), .int .i64 (wrap64 (1 + t8.1)), .int .i64 (wrap64 (4 + t11.1)), .slice A21 t18.1.length c22, (.slice A110 xs41.length c111), (.slice A112 xs55.length c113), .slice A64 t61.1.length c65, .int .i64 (wrap64 (4 * (wrap64 (1 + t5.1)))), (.slice A114 xs82.length c115), (.slice A116 xs85.length c117), .int .i64 1, .int .i64 1, .slice A98 t93.1.length c99, .slice A104 t93.2.1.length c105]) rfl rfl rfl rfl rfl rfl (one_cons rfl (one_cons rfl (one_cons rfl (one_cons rfl (one_cons rfl (one_cons rfl (one_cons rfl (one_cons rfl (one_cons rfl (one_cons rfl (one_cons rfl (one_cons rfl (one_cons rfl (one_cons rfl one_nil)))))))))))))) (by kernel_rfl) (Nat.le_of_ble_eq_true rfl) (cs' := #[.int .i64 (wrap64 (4 * (wrap64 (1 + t5.1)))), .int .i64 (wrap64 (1 + t8.1)), .int .i64 (wrap64 (4 + t11.1)), .slice A21 t18.1.length c22, (.slice A110 xs41.length c111), (.slice A112 xs55.length c113), .slice A64 t61.1.length c65, .int .i64 (wrap64 (4 * (wrap64 (1 + t5.1)))), (.slice A114 xs82.length c115), (.slice A116 xs85.length c117), .int .i64 1, .int .i64 1, .slice A98 t93.1.length c99, .slice A104 t93.2.1.length c105]) (by kernel_rfl) (fun w118 HS => ?_)
        dsimp only [List.set] at HS
        refine dn_ hK109 ?_
        clear hK109
        refine WC.ret ?_
        have le119 := row_le (HS.mu 3 rfl)
        exact by (
        replace HS := HS.freezeN 3 (p := (fun W => (Kd.slice 3 (Kd.int .i64)).C W A110 (xs41).length (xs41))) rfl (fun W_ hm_ h_ => row_C (by rfl) hm_ (AllF.get 6 rfl h_))
        dsimp only [List.eraseIdx] at HS
        have le120 := row_le (HS.mu 2 rfl)
        replace HS := HS.freezeN 2 (p := (fun W => k48.C W A112 (xs55).length (xs55))) rfl (fun W_ hm_ h_ => row_C (by rfl) hm_ (AllF.get 6 rfl h_))
        dsimp only [List.eraseIdx] at HS
        have le121 := row_le (HS.mu 1 rfl)
        exact by (
        replace HS := HS.freezeN 1 (p := (fun W => (Kd.slice 3 (Kd.int .i64)).C W A114 (xs82).length (xs82))) rfl (fun W_ hm_ h_ => row_C (by rfl) hm_ (AllF.get 5 rfl h_))
        dsimp only [List.eraseIdx] at HS
        have le122 := row_le (HS.mu 0 rfl)
        replace HS := HS.freezeN 0 (p := (fun W => (Kd.slice 3 (Kd.int .i64)).C W A116 (xs85).length (xs85))) rfl (fun W_ hm_ h_ => row_C (by rfl) hm_ (AllF.get 5 rfl h_))
        dsimp only [List.eraseIdx] at HS
        replace HS := HS.deriveN (p := (fun W => k39.K W (⟨wrap64 (4 * (wrap64 (1 + t5.1))), wrap64 (1 + t8.1), wrap64 (4 + t11.1), t18.1, xs41, xs55, t61.1, (⟨wrap64 (4 * (wrap64 (1 + t5.1))), xs82, xs85, 1, 1⟩ : S36), (⟨t93.1, t93.2.1⟩ : S37)⟩ : S39) [.int .i64 (wrap64 (4 * (wrap64 (1 + t5.1)))), .int .i64 (wrap64 (1 + t8.1)), .int .i64 (wrap64 (4 + t11.1)), .slice A21 t18.1.length c22, .slice A110 xs41.length c111, .slice A112 xs55.length c113, .slice A64 t61.1.length c65, .int .i64 (wrap64 (4 * (wrap64 (1 + t5.1)))), .slice A114 xs82.length c115, .slice A116 xs85.length c117, .int .i64 1, .int .i64 1, .slice A98 t93.1.length c99, .slice A104 t93.2.1.length c105])) (fun W_ hN_ => (k39_mk _ (⟨wrap64 (4 * (wrap64 (1 + t5.1))), wrap64 (1 + t8.1), wrap64 (4 + t11.1), t18.1, xs41, xs55, t61.1, (⟨wrap64 (4 * (wrap64 (1 + t5.1))), xs82, xs85, 1, 1⟩ : S36), (⟨t93.1, t93.2.1⟩ : S37)⟩ : S39) (le23) (AllF.get 11 rfl hN_) (le119) (AllF.get 3 rfl hN_) (le120) (AllF.get 2 rfl hN_) (le66) (AllF.get 8 rfl hN_) (le121) (AllF.get 1 rfl hN_) (le122) (AllF.get 0 rfl hN_) (le100) (AllF.get 4 rfl hN_) (le106) (AllF.get 5 rfl hN_)))
        obtain ⟨rfl, rfl⟩ := Prod.mk.inj (os H)
        exact by (
        have HSf := (St.forget (St.forget HS 1 rfl) 0 rfl)
        exact fin1 Try.f79 rfl ⟨_, rfl, resv_box (HS.mu 1 rfl) Try.underlying39 rfl (by kernel_rfl)⟩ hR_ ⟨_, rfl, (foot_freshM (HSf.footN 0 rfl)), (HSf.mu 0 rfl), (rest_of (HSf.getO 0 rfl) (HSf.mu 1 rfl)), HSf.b⟩ ))))))))))
      clear hK75
      refine WC.loop (fun k_ E_ W_ => ∃ (i81 : Int) (xs82 : List (List Int)) (v83 : Value) (I84 : List Value) (xs85 : List (List Int)) (v86 : Value) (I87 : List Value), E_ = [(2, .pointer (some ⟨b2, 0, none⟩)), (3, .pointer (some ⟨b14, 0, none⟩)), (4, .int .i64 t27), (5, .int .i64 t31.1), (12, .int .i64 (wrap64 (1 + t72.1))), (13, .int .i64 i81)] ∧ (∃ o_, spec_l10Right.l0 t5 t27 t31 t72 k_ i81 xs82 xs85 = some o_ ∧ G77 o_ = some (r1, y_)) ∧ St (fun _ => True) w0 W_ [rowM w0.heap.size 25 1 v86 xs85.length I87, rowM w0.heap.size 25 1 v83 xs82.length I84, rowM w0.heap.size 48 32 v56 xs55.length I57, rowM w0.heap.size 25 1 v42 xs41.length I43, boxM b14 #[.int .i64 (wrap64 (4 * (wrap64 (1 + t5.1)))), .int .i64 (wrap64 (1 + t8.1)), .int .i64 (wrap64 (4 + t11.1)), .slice A21 t18.1.length c22, v42, v56, .slice A64 t61.1.length c65, .int .i64 (wrap64 (4 * (wrap64 (1 + t5.1)))), v83, v86, .int .i64 1, .int .i64 1, .slice none 0 0, .slice none 0 0] 39, boxM b2 #[.int .i64 0, .int .i64 0, .int .i64 0, .slice none 0 0, .slice none 0 0, .slice none 0 0, .slice none 0 0, .int .i64 0, .slice none 0 0, .slice none 0 0, .int .i64 0, .int .i64 0, .slice none 0 0, .slice none 0 0] 39, boxM b0 #[.slice A0_0 x0.f0.length c0_0, .int .i64 t72.2.f1, .int .i64 t72.2.f2] 140, keepM w bs_] [(frameF w b0 bs_), (fun W => (Kd.int .u8).C W A0_0 x0.f0.length x0.f0)] [(fun W => Reps ((Kd.slice 3 (Kd.int .i64)).K W) (Kd.slice 3 (Kd.int .i64)).sz xs85 I87), (fun W => Reps ((Kd.slice 3 (Kd.int .i64)).K W) (Kd.slice 3 (Kd.int .i64)).sz xs82 I84), (fun W => (Kd.int .i64).C W A64 t61.1.length t61.1), (fun W => Reps (k48.K W) k48.sz xs55 I57), (fun W => Reps ((Kd.slice 3 (Kd.int .i64)).K W) (Kd.slice 3 (Kd.int .i64)).sz xs41 I43), (fun W => k112.C W A21 t18.1.length t18.1)]) k ⟨0, ([] : List (List Int)), (.slice none 0 0), ([]), ([] : List (List Int)), (.slice none 0 0), ([]), rfl, ⟨_, H, Ho80⟩, (St.pick HS (fun W_ h_ => ⟨AllF.get 0 rfl h_, AllF.get 1 rfl h_, trivial⟩) (fun W_ h_ => ⟨AllF.get 0 rfl h_, AllF.get 1 rfl h_, AllF.get 2 rfl h_, AllF.get 3 rfl h_, AllF.get 4 rfl h_, AllF.get 5 rfl h_, trivial⟩))⟩ ⟨rfl, rfl, rfl, rfl, rfl, rfl, trivial⟩ ?_
      rintro k_ E_ w124 ⟨i81, xs82, v83, I84, xs85, v86, I87, rfl, ⟨o79, H, Ho80⟩, HS⟩
      rcases k_ with _ | k125
      · exact no_ H
      exact by (
      replace H : spec_l10Right.b0 t5 t27 t31 t72 (spec_l10Right.l0 t5 t27 t31 t72 k125) k125 i81 xs82 xs85 = some o79 := H
      unfold spec_l10Right.b0 at H
      refine WC.seq fun _ hK126 => ?_
      refine sr_ fun _ hK127 => ?_
      refine mv_ ?_
      refine mv_ ?_
      exact by (
      refine b_ bin_lss ?_
      refine dn_ hK127 ?_
      clear hK127
      rcases eti_ H with ⟨c128, H⟩ | ⟨c128, H⟩
      · refine wn_ (dF c128) ?_
        refine WC.exit ?_
        obtain rfl := os H
        exact WQ.via2 (fun _ _ h_ => h_) X88 ⟨i81, xs82, v83, I84, xs85, v86, I87, rfl, Ho80, (St.pick HS (fun W_ h_ => ⟨AllF.get 0 rfl h_, AllF.get 1 rfl h_, trivial⟩) (fun W_ h_ => ⟨AllF.get 0 rfl h_, AllF.get 1 rfl h_, AllF.get 2 rfl h_, AllF.get 3 rfl h_, AllF.get 4 rfl h_, AllF.get 5 rfl h_, trivial⟩))⟩ ⟨rfl, rfl, rfl, rfl, rfl, rfl, trivial⟩
      exact by (
      refine wy_ (dT c128) ?_
      refine WC.skip ?_
      refine via_ hK126 ?_
      clear hK126
      refine WC.seq fun _ hK129 => ?_
      refine WC.block ?_
      exact by (
      refine sr_ fun _ hK130 => ?_
      refine WL.lit0 HS rfl rfl (by decide) rfl Try.underlying25 (sz := 1) (by kernel_rfl) (fun v131 w132 HS => ?_)
      replace HS := HS.deriveN (p := (fun W => Reps ((Kd.int .i64).K W) (Kd.int .i64).sz ([] : List Int) [])) (fun _ _ => Reps.none _ _)
      refine as_ ?_
      refine dn_ hK130 ?_
      clear hK130
      exact by (
      refine sr_ fun _ hK133 => ?_
      refine WL.lit0 HS rfl rfl (by decide) rfl Try.underlying25 (sz := 1) (by kernel_rfl) (fun v134 w135 HS => ?_)
      replace HS := HS.deriveN (p := (fun W => Reps ((Kd.int .i64).K W) (Kd.int .i64).sz ([] : List Int) [])) (fun _ _ => Reps.none _ _)
      refine as_ ?_
      refine dn_ hK133 ?_
      clear hK133
      exact by (
      refine WC.seq fun K136 hK136 => ?_
      refine sr_ fun _ hK137 => ?_
      refine as_ ?_
      refine dn_ hK137 ?_
      clear hK137
      refine WC.block ?_
      exact by (
      obtain ⟨G138, hG139, o140, H, Ho141⟩ := open_G H
      have X149 : ∀ E_ W_, (∃ (xs142 : List Int) (v143 : Value) (I144 : List Value) (xs145 : List Int) (v146 : Value) (I147 : List Value) (i148 : Int), E_ = [(2, .pointer (some ⟨b2, 0, none⟩)), (3, .pointer (some ⟨b14, 0, none⟩)), (4, .int .i64 t27), (5, .int .i64 t31.1), (12, .int .i64 (wrap64 (1 + t72.1))), (13, .int .i64 i81), (14, v143), (15, v146), (16, .int .i64 i148)] ∧ G138 (xs142, xs145, i148) = some o79 ∧ St (fun _ => True) w0 W_ [rowM w0.heap.size 3 1 v146 xs145.length I147, rowM w0.heap.size 3 1 v143 xs142.length I144, rowM w0.heap.size 25 1 v86 xs85.length I87, rowM w0.heap.size 25 1 v83 xs82.length I84, rowM w0.heap.size 48 32 v56 xs55.length I57, rowM w0.heap.size 25 1 v42 xs41.length I43, boxM b14 #[.int .i64 (wrap64 (4 * (wrap64 (1 + t5.1)))), .int .i64 (wrap64 (1 + t8.1)), .int .i64 (wrap64 (4 + t11.1)), .slice A21 t18.1.length c22, v42, v56, .slice A64 t61.1.length c65, .int .i64 (wrap64 (4 * (wrap64 (1 + t5.1)))), v83, v86, .int .i64 1, .int .i64 1, .slice none 0 0, .slice none 0 0] 39, boxM b2 #[.int .i64 0, .int .i64 0, .int .i64 0, .slice none 0 0, .slice none 0 0, .slice none 0 0, .slice none 0 0, .int .i64 0, .slice none 0 0, .slice none 0 0, .int .i64 0, .int .i64 0, .slice none 0 0, .slice none 0 0] 39, boxM b0 #[.slice A0_0 x0.f0.length c0_0, .int .i64 t72.2.f1, .int .i64 t72.2.f2] 140, keepM w bs_] [(frameF w b0 bs_), (fun W => (Kd.int .u8).C W A0_0 x0.f0.length x0.f0)] [(fun W => Reps ((Kd.int .i64).K W) (Kd.int .i64).sz xs145 I147), (fun W => Reps ((Kd.int .i64).K W) (Kd.int .i64).sz xs142 I144), (fun W => Reps ((Kd.slice 3 (Kd.int .i64)).K W) (Kd.slice 3 (Kd.int .i64)).sz xs85 I87), (fun W => Reps ((Kd.slice 3 (Kd.int .i64)).K W) (Kd.slice 3 (Kd.int .i64)).sz xs82 I84), (fun W => (Kd.int .i64).C W A64 t61.1.length t61.1), (fun W => Reps (k48.K W) k48.sz xs55 I57), (fun W => Reps ((Kd.slice 3 (Kd.int .i64)).K W) (Kd.slice 3 (Kd.int .i64)).sz xs41 I43), (fun W => k112.C W A21 t18.1.length t18.1)]) → ∀ a, Fits a 222 E_ → K136 a W_ := by
        rintro E_ w150 ⟨xs142, v143, I144, xs145, v146, I147, i148, rfl, H, HS⟩
        rw [hG139] at H
        (try dsimp only at H)
        refine hK136 _ _ ?_
        exact by (
        clear hK136
        refine sr_ fun _ hK151 => ?_
        refine v_ (fa_ Try.underlying39) ?_
        refine v_ (fa_ Try.underlying36) ?_
        obtain ⟨A152, c153, rfl⟩ := row_slice (HS.mu 3 rfl)
        refine v_ (lb_ (HS.mu 6 rfl) Try.underlying23 rfl) ?_
        exact by (
        refine mv_ ?_
        obtain ⟨A154, c155, rfl⟩ := row_slice (HS.mu 1 rfl)
        have le156 := row_le (HS.mu 1 rfl)
        replace HS := HS.freezeN 1 (p := (fun W => (Kd.int .i64).C W A154 (xs142).length (xs142))) rfl (fun W_ hm_ h_ => row_C (by rfl) hm_ (AllF.get 1 rfl h_))
        dsimp only [List.eraseIdx] at HS
        refine WL.val rfl rfl (by decide) (Run.lit1 (z := (.slice none 0 0)) (vs := [.slice A154 xs142.length c155]) rfl rfl rfl Try.underlying23 (by kernel_rfl) (Nat.le_of_ble_eq_true rfl) (Nat.le_of_ble_eq_true rfl)) ?_
        exact by (
        have HS1 := HS.below (below_alloc (Below.refl _ _) (.cells #[.slice A154 xs142.length c155] 25))
        obtain ⟨q157, H⟩ := if_some H
        refine WL.append HS1 2 rfl rfl rfl (by decide) rfl (.slice none 0 0) 24 Try.underlying23 (by kernel_rfl) rfl (by decide) (by decide) rfl rfl [.slice A154 xs142.length c155] rfl (lit_news _ _ _) (one_cons rfl one_nil) (by omega) ((xs82 ++ [xs142]).length) (by simp) (fun v158 w159 I160 hI161 HS => ?_)
        dsimp only [List.set] at HS
        replace HS := HS.deriveN (p := (fun W => Reps ((Kd.slice 3 (Kd.int .i64)).K W) (Kd.slice 3 (Kd.int .i64)).sz (xs82 ++ [xs142]) I160)) (fun W_ hN_ => reps_snoc hI161 (AllF.get 4 rfl hN_) (K_slice le156 (AllF.get 0 rfl hN_)))
        clear HS1
        exact by (
        refine v_ (fa_ Try.underlying39) ?_
        refine v_ (fa_ Try.underlying36) ?_
        obtain ⟨A163, c164, rfl⟩ := row_slice (HS.mu 2 rfl)
        refine WL.store HS 5 rfl rfl rfl rfl rfl rfl rfl (by kernel_rfl) (Nat.le_of_ble_eq_true rfl) (cs' := #[.int .i64 (wrap64 (4 * (wrap64 (1 + t5.1)))), .int .i64 (wrap64 (1 + t8.1)), .int .i64 (wrap64 (4 + t11.1)), .slice A21 t18.1.length c22, v42, v56, .slice A64 t61.1.length c65, .int .i64 (wrap64 (4 * (wrap64 (1 + t5.1)))), (.slice A163 ((xs82 ++ [xs142]).length) c164), v86, .int .i64 1, .int .i64 1, .slice none 0 0, .slice none 0 0]) (by kernel_rfl) (fun w162 HS => ?_)
        dsimp only [List.set] at HS
        refine dn_ hK151 ?_
        exact by (
        clear hK151
        refine rg_ ?_
        refine v_ (fa_ Try.underlying39) ?_
        refine v_ (fa_ Try.underlying36) ?_
        obtain ⟨A165, c166, rfl⟩ := row_slice (HS.mu 1 rfl)
        refine v_ (lb_ (HS.mu 5 rfl) Try.underlying23 rfl) ?_
        exact by (
        refine mv_ ?_
        obtain ⟨A167, c168, rfl⟩ := row_slice (HS.mu 0 rfl)
        have le169 := row_le (HS.mu 0 rfl)
        replace HS := HS.freezeN 0 (p := (fun W => (Kd.int .i64).C W A167 (xs145).length (xs145))) rfl (fun W_ hm_ h_ => row_C (by rfl) hm_ (AllF.get 2 rfl h_))
        dsimp only [List.eraseIdx] at HS
        refine WL.val rfl rfl (by decide) (Run.lit1 (z := (.slice none 0 0)) (vs := [.slice A167 xs145.length c168]) rfl rfl rfl Try.underlying23 (by kernel_rfl) (Nat.le_of_ble_eq_true rfl) (Nat.le_of_ble_eq_true rfl)) ?_
        exact by (
        have HS1 := HS.below (below_alloc (Below.refl _ _) (.cells #[.slice A167 xs145.length c168] 25))
        obtain ⟨q170, H⟩ := if_some H
        refine WL.append HS1 0 rfl rfl rfl (by decide) rfl (.slice none 0 0) 24 Try.underlying23 (by kernel_rfl) rfl (by decide) (by decide) rfl rfl [.slice A167 xs145.length c168] rfl (lit_news _ _ _) (one_cons rfl one_nil) (by omega) ((xs85 ++ [xs145]).length) (by simp) (fun v171 w172 I173 hI174 HS => ?_)
        dsimp only [List.set] at HS
        replace HS := HS.deriveN (p := (fun W => Reps ((Kd.slice 3 (Kd.int .i64)).K W) (Kd.slice 3 (Kd.int .i64)).sz (xs85 ++ [xs145]) I173)) (fun W_ hN_ => reps_snoc hI174 (AllF.get 5 rfl hN_) (K_slice le169 (AllF.get 0 rfl hN_)))
        clear HS1
        exact by (
        refine v_ (fa_ Try.underlying39) ?_
        refine v_ (fa_ Try.underlying36) ?_
        obtain ⟨A176, c177, rfl⟩ := row_slice (HS.mu 0 rfl)
        refine WL.store HS 4 rfl rfl rfl rfl rfl rfl rfl (by kernel_rfl) (Nat.le_of_ble_eq_true rfl) (cs' := #[.int .i64 (wrap64 (4 * (wrap64 (1 + t5.1)))), .int .i64 (wrap64 (1 + t8.1)), .int .i64 (wrap64 (4 + t11.1)), .slice A21 t18.1.length c22, v42, v56, .slice A64 t61.1.length c65, .int .i64 (wrap64 (4 * (wrap64 (1 + t5.1)))), (.slice A163 ((xs82 ++ [xs142]).length) c164), (.slice A176 ((xs85 ++ [xs145]).length) c177), .int .i64 1, .int .i64 1, .slice none 0 0, .slice none 0 0]) (by kernel_rfl) (fun w175 HS => ?_)
        dsimp only [List.set] at HS
        refine dn_ hK129 ?_
        exact by (
        clear hK129
        refine rg_ ?_
        refine mv_ ?_
        refine b_ bin_add64 ?_
        refine as_ ?_
        refine WL.done ?_
        exact WQ.round k125 (fun _ _ h_ => h_) (Nat.lt_succ_self _) ⟨(wrap64 (i81 + 1)), (xs82 ++ [xs142]), (.slice A163 ((xs82 ++ [xs142]).length) c164), I160, (xs85 ++ [xs145]), (.slice A176 ((xs85 ++ [xs145]).length) c177), I173, rfl, ⟨_, H, Ho80⟩, (St.pick HS (fun W_ h_ => ⟨AllF.get 0 rfl h_, AllF.get 1 rfl h_, trivial⟩) (fun W_ h_ => ⟨AllF.get 0 rfl h_, AllF.get 2 rfl h_, AllF.get 8 rfl h_, AllF.get 9 rfl h_, AllF.get 10 rfl h_, AllF.get 11 rfl h_, trivial⟩))⟩ ⟨rfl, rfl, rfl, rfl, rfl, rfl, trivial⟩ )))))))))
      exact by (
      clear hK136
      refine WC.loop (fun k_ E_ W_ => ∃ (xs142 : List Int) (v143 : Value) (I144 : List Value) (xs145 : List Int) (v146 : Value) (I147 : List Value) (i148 : Int), E_ = [(2, .pointer (some ⟨b2, 0, none⟩)), (3, .pointer (some ⟨b14, 0, none⟩)), (4, .int .i64 t27), (5, .int .i64 t31.1), (12, .int .i64 (wrap64 (1 + t72.1))), (13, .int .i64 i81), (14, v143), (15, v146), (16, .int .i64 i148)] ∧ (∃ o_, spec_l10Right.l1 t5 t31 t72 i81 k_ xs142 xs145 i148 = some o_ ∧ G138 o_ = some o79) ∧ St (fun _ => True) w0 W_ [rowM w0.heap.size 3 1 v146 xs145.length I147, rowM w0.heap.size 3 1 v143 xs142.length I144, rowM w0.heap.size 25 1 v86 xs85.length I87, rowM w0.heap.size 25 1 v83 xs82.length I84, rowM w0.heap.size 48 32 v56 xs55.length I57, rowM w0.heap.size 25 1 v42 xs41.length I43, boxM b14 #[.int .i64 (wrap64 (4 * (wrap64 (1 + t5.1)))), .int .i64 (wrap64 (1 + t8.1)), .int .i64 (wrap64 (4 + t11.1)), .slice A21 t18.1.length c22, v42, v56, .slice A64 t61.1.length c65, .int .i64 (wrap64 (4 * (wrap64 (1 + t5.1)))), v83, v86, .int .i64 1, .int .i64 1, .slice none 0 0, .slice none 0 0] 39, boxM b2 #[.int .i64 0, .int .i64 0, .int .i64 0, .slice none 0 0, .slice none 0 0, .slice none 0 0, .slice none 0 0, .int .i64 0, .slice none 0 0, .slice none 0 0, .int .i64 0, .int .i64 0, .slice none 0 0, .slice none 0 0] 39, boxM b0 #[.slice A0_0 x0.f0.length c0_0, .int .i64 t72.2.f1, .int .i64 t72.2.f2] 140, keepM w bs_] [(frameF w b0 bs_), (fun W => (Kd.int .u8).C W A0_0 x0.f0.length x0.f0)] [(fun W => Reps ((Kd.int .i64).K W) (Kd.int .i64).sz xs145 I147), (fun W => Reps ((Kd.int .i64).K W) (Kd.int .i64).sz xs142 I144), (fun W => Reps ((Kd.slice 3 (Kd.int .i64)).K W) (Kd.slice 3 (Kd.int .i64)).sz xs85 I87), (fun W => Reps ((Kd.slice 3 (Kd.int .i64)).K W) (Kd.slice 3 (Kd.int .i64)).sz xs82 I84), (fun W => (Kd.int .i64).C W A64 t61.1.length t61.1), (fun W => Reps (k48.K W) k48.sz xs55 I57), (fun W => Reps ((Kd.slice 3 (Kd.int .i64)).K W) (Kd.slice 3 (Kd.int .i64)).sz xs41 I43), (fun W => k112.C W A21 t18.1.length t18.1)]) k125 ⟨([] : List Int), v131, ([]), ([] : List Int), v134, ([]), 0, rfl, ⟨_, H, Ho141⟩, (St.pick HS (fun W_ h_ => ⟨AllF.get 0 rfl h_, AllF.get 1 rfl h_, trivial⟩) (fun W_ h_ => ⟨AllF.get 0 rfl h_, AllF.get 1 rfl h_, AllF.get 2 rfl h_, AllF.get 3 rfl h_, AllF.get 4 rfl h_, AllF.get 5 rfl h_, AllF.get 6 rfl h_, AllF.get 7 rfl h_, trivial⟩))⟩ ⟨rfl, rfl, rfl, rfl, rfl, rfl, rfl, rfl, rfl, trivial⟩ ?_
      rintro k_ E_ w179 ⟨xs142, v143, I144, xs145, v146, I147, i148, rfl, ⟨o140, H, Ho141⟩, HS⟩
      rcases k_ with _ | k180
      · exact no_ H
      replace H : spec_l10Right.b1 t5 t31 t72 i81 (spec_l10Right.l1 t5 t31 t72 i81 k180) k180 xs142 xs145 i148 = some o140 := H
      exact by (
      unfold spec_l10Right.b1 at H
      refine WC.seq fun _ hK181 => ?_
      refine sr_ fun _ hK182 => ?_
      refine mv_ ?_
      refine v_ (fa_ Try.underlying39) ?_
      refine v_ (lb_ (HS.mu 6 rfl) Try.underlying3 rfl) ?_
      exact by (
      refine b_ bin_lss ?_
      refine dn_ hK182 ?_
      clear hK182
      rcases eti_ H with ⟨c183, H⟩ | ⟨c183, H⟩
      · refine wn_ (dF c183) ?_
        refine WC.exit ?_
        obtain rfl := os H
        exact WQ.via2 (fun _ _ h_ => h_) X149 ⟨xs142, v143, I144, xs145, v146, I147, i148, rfl, Ho141, (St.pick HS (fun W_ h_ => ⟨AllF.get 0 rfl h_, AllF.get 1 rfl h_, trivial⟩) (fun W_ h_ => ⟨AllF.get 0 rfl h_, AllF.get 1 rfl h_, AllF.get 2 rfl h_, AllF.get 3 rfl h_, AllF.get 4 rfl h_, AllF.get 5 rfl h_, AllF.get 6 rfl h_, AllF.get 7 rfl h_, trivial⟩))⟩ ⟨rfl, rfl, rfl, rfl, rfl, rfl, rfl, rfl, rfl, trivial⟩
      exact by (
      refine wy_ (dT c183) ?_
      refine WC.skip ?_
      refine via_ hK181 ?_
      clear hK181
      refine WC.seq fun K184 hK184 => ?_
      obtain ⟨G185, hG186, o187, H, Ho188⟩ := open_G H
      exact by (
      have X195 : ∀ E_ W_, (∃ (xs189 : List Int) (v190 : Value) (I191 : List Value) (xs192 : List Int) (v193 : Value) (I194 : List Value), E_ = [(2, .pointer (some ⟨b2, 0, none⟩)), (3, .pointer (some ⟨b14, 0, none⟩)), (4, .int .i64 t27), (5, .int .i64 t31.1), (12, .int .i64 (wrap64 (1 + t72.1))), (13, .int .i64 i81), (14, v190), (15, v193), (16, .int .i64 i148)] ∧ G185 (xs189, xs192) = some o140 ∧ St (fun _ => True) w0 W_ [rowM w0.heap.size 3 1 v193 xs192.length I194, rowM w0.heap.size 3 1 v190 xs189.length I191, rowM w0.heap.size 25 1 v86 xs85.length I87, rowM w0.heap.size 25 1 v83 xs82.length I84, rowM w0.heap.size 48 32 v56 xs55.length I57, rowM w0.heap.size 25 1 v42 xs41.length I43, boxM b14 #[.int .i64 (wrap64 (4 * (wrap64 (1 + t5.1)))), .int .i64 (wrap64 (1 + t8.1)), .int .i64 (wrap64 (4 + t11.1)), .slice A21 t18.1.length c22, v42, v56, .slice A64 t61.1.length c65, .int .i64 (wrap64 (4 * (wrap64 (1 + t5.1)))), v83, v86, .int .i64 1, .int .i64 1, .slice none 0 0, .slice none 0 0] 39, boxM b2 #[.int .i64 0, .int .i64 0, .int .i64 0, .slice none 0 0, .slice none 0 0, .slice none 0 0, .slice none 0 0, .int .i64 0, .slice none 0 0, .slice none 0 0, .int .i64 0, .int .i64 0, .slice none 0 0, .slice none 0 0] 39, boxM b0 #[.slice A0_0 x0.f0.length c0_0, .int .i64 t72.2.f1, .int .i64 t72.2.f2] 140, keepM w bs_] [(frameF w b0 bs_), (fun W => (Kd.int .u8).C W A0_0 x0.f0.length x0.f0)] [(fun W => Reps ((Kd.int .i64).K W) (Kd.int .i64).sz xs192 I194), (fun W => Reps ((Kd.int .i64).K W) (Kd.int .i64).sz xs189 I191), (fun W => Reps ((Kd.slice 3 (Kd.int .i64)).K W) (Kd.slice 3 (Kd.int .i64)).sz xs85 I87), (fun W => Reps ((Kd.slice 3 (Kd.int .i64)).K W) (Kd.slice 3 (Kd.int .i64)).sz xs82 I84), (fun W => (Kd.int .i64).C W A64 t61.1.length t61.1), (fun W => Reps (k48.K W) k48.sz xs55 I57), (fun W => Reps ((Kd.slice 3 (Kd.int .i64)).K W) (Kd.slice 3 (Kd.int .i64)).sz xs41 I43), (fun W => k112.C W A21 t18.1.length t18.1)]) → ∀ a, Fits a 222 E_ → K184 a W_ := by
        rintro E_ w196 ⟨xs189, v190, I191, xs192, v193, I194, rfl, H, HS⟩
        rw [hG186] at H
        (try dsimp only at H)
        refine hK184 _ _ ?_
        clear hK184
        exact by (
        refine rg_ ?_
        refine mv_ ?_
        refine b_ bin_add64 ?_
        refine as_ ?_
        refine WL.done ?_
        exact WQ.round k180 (fun _ _ h_ => h_) (Nat.lt_succ_self _) ⟨xs189, v190, I191, xs192, v193, I194, (wrap64 (i148 + 1)), rfl, ⟨_, H, Ho141⟩, (St.pick HS (fun W_ h_ => ⟨AllF.get 0 rfl h_, AllF.get 1 rfl h_, trivial⟩) (fun W_ h_ => ⟨AllF.get 0 rfl h_, AllF.get 1 rfl h_, AllF.get 2 rfl h_, AllF.get 3 rfl h_, AllF.get 4 rfl h_, AllF.get 5 rfl h_, AllF.get 6 rfl h_, AllF.get 7 rfl h_, trivial⟩))⟩ ⟨rfl, rfl, rfl, rfl, rfl, rfl, rfl, rfl, rfl, trivial⟩ )
      exact by (
      clear hK184
      refine WC.block ?_
      refine sr_ fun _ hK198 => ?_
      refine mv_ ?_
      refine mv_ ?_
      refine mv_ ?_
      exact by (
      refine mv_ ?_
      refine b_ bin_mul64 ?_
      refine b_ bin_add64 ?_
      refine mv_ ?_
      refine b_ bin_mul64 ?_
      refine b_ bin_add64 ?_
      exact by (
      refine mv_ ?_
      refine mv_ ?_
      refine b_ bin_mul64 ?_
      refine b_ bin_add64 ?_
      refine v_ (Run.bin rfl rfl rfl (bin_rem (show (16 : Int) ≠ 0 by decide))) ?_
      refine b_ bin_sub64 ?_
      exact by (
      refine WL.val rfl rfl (by decide) (Run.lit1 (z := (.int .i64 0)) (vs := [.int .i64 (wrap64 ((Int.tmod (wrap64 ((wrap64 ((wrap64 (t31.1 + (wrap64 (i81 * (wrap64 (1 + t72.1)))))) + (wrap64 (i148 * 7)))) + (wrap64 (i81 * i148)))) 16) - 8))]) rfl rfl rfl Try.underlying25 (by kernel_rfl) (Nat.le_of_ble_eq_true rfl) (Nat.le_of_ble_eq_true rfl)) ?_
      have HS1 := HS.below (below_alloc (Below.refl _ _) (.cells #[.int .i64 (wrap64 ((Int.tmod (wrap64 ((wrap64 ((wrap64 (t31.1 + (wrap64 (i81 * (wrap64 (1 + t72.1)))))) + (wrap64 (i148 * 7)))) + (wrap64 (i81 * i148)))) 16) - 8))] 3))
      obtain ⟨q199, H⟩ := if_some H
      refine WL.append HS1 1 rfl rfl rfl (by decide) rfl (.int .i64 0) 8 Try.underlying25 (by kernel_rfl) rfl (by decide) (by decide) rfl rfl [.int .i64 (wrap64 ((Int.tmod (wrap64 ((wrap64 ((wrap64 (t31.1 + (wrap64 (i81 * (wrap64 (1 + t72.1)))))) + (wrap64 (i148 * 7)))) + (wrap64 (i81 * i148)))) 16) - 8))] rfl (lit_news _ _ _) (one_cons rfl one_nil) (by omega) ((xs142 ++ [wrap64 ((Int.tmod (wrap64 ((wrap64 ((wrap64 (t31.1 + (wrap64 (i81 * (wrap64 (1 + t72.1)))))) + (wrap64 (i148 * 7)))) + (wrap64 (i81 * i148)))) 16) - 8)]).length) (by simp) (fun v200 w201 I202 hI203 HS => ?_)
      dsimp only [List.set] at HS
      replace HS := HS.deriveN (p := (fun W => Reps ((Kd.int .i64).K W) (Kd.int .i64).sz (xs142 ++ [wrap64 ((Int.tmod (wrap64 ((wrap64 ((wrap64 (t31.1 + (wrap64 (i81 * (wrap64 (1 + t72.1)))))) + (wrap64 (i148 * 7)))) + (wrap64 (i81 * i148)))) 16) - 8)]) I202)) (fun W_ hN_ => reps_snoc hI203 (AllF.get 1 rfl hN_) (K_int _))
      exact by (
      clear HS1
      refine as_ ?_
      refine dn_ hK198 ?_
      clear hK198
      refine sr_ fun _ hK204 => ?_
      refine mv_ ?_
      exact by (
      refine v_ (Run.bin rfl rfl rfl (bin_rem (show (4 : Int) ≠ 0 by decide))) ?_
      refine b_ bin_eql ?_
      refine dn_ hK204 ?_
      clear hK204
      rcases eti_ H with ⟨c205, H⟩ | ⟨c205, H⟩
      · refine wn_ (eF c205) ?_
        exact by (
        refine WC.skip ?_
        obtain rfl := os H
        exact WQ.via2 (fun _ _ h_ => h_) X195 ⟨(xs142 ++ [wrap64 ((Int.tmod (wrap64 ((wrap64 ((wrap64 (t31.1 + (wrap64 (i81 * (wrap64 (1 + t72.1)))))) + (wrap64 (i148 * 7)))) + (wrap64 (i81 * i148)))) 16) - 8)]), v200, I202, xs145, v146, I147, rfl, Ho188, (St.pick HS (fun W_ h_ => ⟨AllF.get 0 rfl h_, AllF.get 1 rfl h_, trivial⟩) (fun W_ h_ => ⟨AllF.get 1 rfl h_, AllF.get 0 rfl h_, AllF.get 3 rfl h_, AllF.get 4 rfl h_, AllF.get 5 rfl h_, AllF.get 6 rfl h_, AllF.get 7 rfl h_, AllF.get 8 rfl h_, trivial⟩))⟩ ⟨rfl, rfl, rfl, rfl, rfl, rfl, rfl, rfl, rfl, trivial⟩ )
      refine wy_ (eT c205) ?_
      refine rg_ ?_
      refine mv_ ?_
      exact by (
      refine mv_ ?_
      refine b_ bin_mul64 ?_
      refine mv_ ?_
      refine b_ bin_add64 ?_
      refine mv_ ?_
      refine b_ bin_add64 ?_
      exact by (
      refine v_ (Run.bin rfl rfl rfl (bin_rem (show (30 : Int) ≠ 0 by decide))) ?_
      refine b_ bin_add64 ?_
      refine WL.val rfl rfl (by decide) (Run.lit1 (z := (.int .i64 0)) (vs := [.int .i64 (wrap64 (1 + (Int.tmod (wrap64 ((wrap64 ((wrap64 (i81 * 3)) + i148)) + t31.1)) 30)))]) rfl rfl rfl Try.underlying25 (by kernel_rfl) (Nat.le_of_ble_eq_true rfl) (Nat.le_of_ble_eq_true rfl)) ?_
      have HS1 := HS.below (below_alloc (Below.refl _ _) (.cells #[.int .i64 (wrap64 (1 + (Int.tmod (wrap64 ((wrap64 ((wrap64 (i81 * 3)) + i148)) + t31.1)) 30)))] 3))
      obtain ⟨q206, H⟩ := if_some H
      refine WL.append HS1 0 rfl rfl rfl (by decide) rfl (.int .i64 0) 8 Try.underlying25 (by kernel_rfl) rfl (by decide) (by decide) rfl rfl [.int .i64 (wrap64 (1 + (Int.tmod (wrap64 ((wrap64 ((wrap64 (i81 * 3)) + i148)) + t31.1)) 30)))] rfl (lit_news _ _ _) (one_cons rfl one_nil) (by omega) ((xs145 ++ [wrap64 (1 + (Int.tmod (wrap64 ((wrap64 ((wrap64 (i81 * 3)) + i148)) + t31.1)) 30))]).length) (by simp) (fun v207 w208 I209 hI210 HS => ?_)
      exact by (
      dsimp only [List.set] at HS
      replace HS := HS.deriveN (p := (fun W => Reps ((Kd.int .i64).K W) (Kd.int .i64).sz (xs145 ++ [wrap64 (1 + (Int.tmod (wrap64 ((wrap64 ((wrap64 (i81 * 3)) + i148)) + t31.1)) 30))]) I209)) (fun W_ hN_ => reps_snoc hI210 (AllF.get 1 rfl hN_) (K_int _))
      clear HS1
      refine as_ ?_
      refine WL.done ?_
      obtain rfl := os H
      exact WQ.via2 (fun _ _ h_ => h_) X195 ⟨(xs142 ++ [wrap64 ((Int.tmod (wrap64 ((wrap64 ((wrap64 (t31.1 + (wrap64 (i81 * (wrap64 (1 + t72.1)))))) + (wrap64 (i148 * 7)))) + (wrap64 (i81 * i148)))) 16) - 8)]), v200, I202, (xs145 ++ [wrap64 (1 + (Int.tmod (wrap64 ((wrap64 ((wrap64 (i81 * 3)) + i148)) + t31.1)) 30))]), v207, I209, rfl, Ho188, (St.pick HS (fun W_ h_ => ⟨AllF.get 0 rfl h_, AllF.get 1 rfl h_, trivial⟩) (fun W_ h_ => ⟨AllF.get 0 rfl h_, AllF.get 1 rfl h_, AllF.get 4 rfl h_, AllF.get 5 rfl h_, AllF.get 6 rfl h_, AllF.get 7 rfl h_, AllF.get 8 rfl h_, AllF.get 9 rfl h_, trivial⟩))⟩ ⟨rfl, rfl, rfl, rfl, rfl, rfl, rfl, rfl, rfl, trivial⟩ )))))))))))))))))))))))))))))))
    exact by (
    clear hK46
    refine WC.loop (fun k_ E_ W_ => ∃ (i52 : Int) (i53 : Int) (i54 : Int) (xs55 : List S48) (v56 : Value) (I57 : List Value), E_ = [(0, .pointer (some ⟨b0, 0, none⟩)), (2, .pointer (some ⟨b2, 0, none⟩)), (3, .pointer (some ⟨b14, 0, none⟩)), (4, .int .i64 t27), (5, .int .i64 t31.1), (9, .int .i64 i52)] ∧ (∃ o_, spec_l10Right.l2 x0 t5 k_ i52 i53 i54 xs55 = some o_ ∧ G48 o_ = some (r1, y_)) ∧ St (fun _ => True) w0 W_ [rowM w0.heap.size 48 32 v56 xs55.length I57, rowM w0.heap.size 25 1 v42 xs41.length I43, boxM b14 #[.int .i64 (wrap64 (4 * (wrap64 (1 + t5.1)))), .int .i64 (wrap64 (1 + t8.1)), .int .i64 (wrap64 (4 + t11.1)), .slice A21 t18.1.length c22, v42, v56, .slice none 0 0, .int .i64 0, .slice none 0 0, .slice none 0 0, .int .i64 0, .int .i64 0, .slice none 0 0, .slice none 0 0] 39, boxM b2 #[.int .i64 0, .int .i64 0, .int .i64 0, .slice none 0 0, .slice none 0 0, .slice none 0 0, .slice none 0 0, .int .i64 0, .slice none 0 0, .slice none 0 0, .int .i64 0, .int .i64 0, .slice none 0 0, .slice none 0 0] 39, boxM b0 #[.slice A0_0 x0.f0.length c0_0, .int .i64 i53, .int .i64 i54] 140, keepM w bs_] [(frameF w b0 bs_), (fun W => (Kd.int .u8).C W A0_0 x0.f0.length x0.f0)] [(fun W => Reps (k48.K W) k48.sz xs55 I57), (fun W => Reps ((Kd.slice 3 (Kd.int .i64)).K W) (Kd.slice 3 (Kd.int .i64)).sz xs41 I43), (fun W => k112.C W A21 t18.1.length t18.1)]) k ⟨0, t31.2.f1, t31.2.f2, ([] : List S48), (.slice none 0 0), ([]), rfl, ⟨_, H, Ho51⟩, (St.pick HS (fun W_ h_ => ⟨AllF.get 0 rfl h_, AllF.get 1 rfl h_, trivial⟩) (fun W_ h_ => ⟨AllF.get 0 rfl h_, AllF.get 1 rfl h_, AllF.get 2 rfl h_, trivial⟩))⟩ ⟨rfl, rfl, rfl, rfl, rfl, rfl, trivial⟩ ?_
    rintro k_ E_ w212 ⟨i52, i53, i54, xs55, v56, I57, rfl, ⟨o50, H, Ho51⟩, HS⟩
    rcases k_ with _ | k213
    · exact no_ H
    replace H : spec_l10Right.b2 x0 t5 (spec_l10Right.l2 x0 t5 k213) k213 i52 i53 i54 xs55 = some o50 := H
    exact by (
    unfold spec_l10Right.b2 at H
    refine WC.seq fun _ hK214 => ?_
    refine sr_ fun _ hK215 => ?_
    refine mv_ ?_
    refine mv_ ?_
    obtain ⟨t216, ha217, H⟩ := bind_some H
    exact by (
    refine c_ Try.func80 (spec_l01Below.runs k213 b0 (⟨x0.f0, i53, i54⟩ : S140) A0_0 c0_0 2 _ t216.1 t216.2 _ _ HS.b (HS.nodupM 4 rfl) (HS.boundM 4 rfl) (HS.footOM 4 rfl 1 rfl) hc0_0 (HS.mu 4 rfl) ha217) ?_
    clear ha217
    rintro _ w218 ⟨rfl, hbx_, hrest_, hB1_⟩
    replace HS := HS.calledM 4 rfl hB1_ hrest_ hbx_
    dsimp only [List.set] at HS
    clear hB1_ hrest_ hbx_
    exact by (
    refine ⟨_, rfl, ?_⟩
    refine b_ bin_add64 ?_
    refine b_ bin_lss ?_
    refine dn_ hK215 ?_
    clear hK215
    rcases eti_ H with ⟨c219, H⟩ | ⟨c219, H⟩
    · refine wn_ (dF c219) ?_
      exact by (
      refine WC.exit ?_
      obtain rfl := os H
      exact WQ.via2 (fun _ _ h_ => h_) X58 ⟨i52, t216.2.f1, t216.2.f2, xs55, v56, I57, rfl, Ho51, (St.pick HS (fun W_ h_ => ⟨AllF.get 0 rfl h_, AllF.get 1 rfl h_, trivial⟩) (fun W_ h_ => ⟨AllF.get 0 rfl h_, AllF.get 1 rfl h_, AllF.get 2 rfl h_, trivial⟩))⟩ ⟨rfl, rfl, rfl, rfl, rfl, rfl, trivial⟩ )
    refine wy_ (dT c219) ?_
    refine WC.skip ?_
    refine via_ hK214 ?_
    exact by (
    clear hK214
    refine WC.seq fun _ hK220 => ?_
    refine WC.block ?_
    refine sr_ fun _ hK221 => ?_
    refine mv_ ?_
    obtain ⟨t222, ha223, H⟩ := bind_some H
    exact by (
    refine c_ Try.func80 (spec_l01Below.runs k213 b0 (⟨x0.f0, t216.2.f1, t216.2.f2⟩ : S140) A0_0 c0_0 2 _ t222.1 t222.2 _ _ HS.b (HS.nodupM 4 rfl) (HS.boundM 4 rfl) (HS.footOM 4 rfl 1 rfl) hc0_0 (HS.mu 4 rfl) ha223) ?_
    clear ha223
    rintro _ w224 ⟨rfl, hbx_, hrest_, hB1_⟩
    replace HS := HS.calledM 4 rfl hB1_ hrest_ hbx_
    dsimp only [List.set] at HS
    clear hB1_ hrest_ hbx_
    exact by (
    refine ⟨_, rfl, ?_⟩
    refine b_ bin_add64 ?_
    refine b_ bin_mul64 ?_
    refine as_ ?_
    refine dn_ hK221 ?_
    clear hK221
    exact by (
    refine WC.seq fun _ hK225 => ?_
    refine WC.drawW HS [rowM w0.heap.size 48 32 v56 xs55.length I57, rowM w0.heap.size 25 1 v42 xs41.length I43, boxM b14 #[.int .i64 (wrap64 (4 * (wrap64 (1 + t5.1)))), .int .i64 (wrap64 (1 + t8.1)), .int .i64 (wrap64 (4 + t11.1)), .slice A21 t18.1.length c22, v42, v56, .slice none 0 0, .int .i64 0, .slice none 0 0, .slice none 0 0, .int .i64 0, .int .i64 0, .slice none 0 0, .slice none 0 0] 39, boxM b2 #[.int .i64 0, .int .i64 0, .int .i64 0, .slice none 0 0, .slice none 0 0, .slice none 0 0, .slice none 0 0, .int .i64 0, .slice none 0 0, .slice none 0 0, .int .i64 0, .int .i64 0, .slice none 0 0, .slice none 0 0] 39] (fun _ HS => ⟨(HS.mu 0 rfl), (HS.mu 1 rfl), (HS.mu 2 rfl), (HS.mu 3 rfl), trivial⟩) [10] rfl rfl (fun w226 HS => ?_)
    refine dm_ 0 ?_
    refine df_ 1 Try.underlying39 ?_
    refine dm_ 4 ?_
    refine df_ 5 Try.underlying39 ?_
    exact by (
    refine dt_ 2 ⟨HS.nowO, HS.nowN, ⟨(HS.mu 0 rfl), (HS.mu 1 rfl), (HS.mu 2 rfl), (HS.mu 3 rfl), trivial⟩⟩ (fun w_ hw_ => Run.load rfl rfl Try.underlying3 rfl (box_cell hw_.2.2.2.2.1 rfl)) ?_
    refine dt_ 6 ⟨HS.nowO, HS.nowN, ⟨(HS.mu 0 rfl), (HS.mu 1 rfl), (HS.mu 2 rfl), (HS.mu 3 rfl), trivial⟩⟩ (fun w_ hw_ => Run.load rfl rfl Try.underlying3 rfl (box_cell hw_.2.2.2.2.1 rfl)) ?_
    refine two__ 3 9 ?_ ?_
    · have HT_ := True.intro
      obtain ⟨t227, ha228, H⟩ := bind_some H
      refine dco_ 3 (w_none rfl) Try.func130 (spec_l10Gain.runs k213 b0 (⟨x0.f0, t222.2.f1, t222.2.f2⟩ : S140) A0_0 c0_0 (wrap64 (4 * (wrap64 (1 + t5.1)))) _ t227.1 t227.2 _ _ HS.b (HS.nodupM 4 rfl) (HS.boundM 4 rfl) (HS.footOM 4 rfl 1 rfl) hc0_0 (HS.mu 4 rfl) ha228) ?_
      exact by (
      clear ha228
      rintro _ w229 ⟨A230, c231, rfl, le232, hf233, hbx_, hrest_, hB1_⟩
      replace HS := HS.newM 4 rfl hB1_ hrest_ hbx_ (foot_cons hf233 foot_nil)
      dsimp only [List.set] at HS
      clear hB1_ hrest_ hbx_
      refine ⟨⟨HS.nowO, HS.nowN.2, ⟨(HS.mu 0 rfl), (HS.mu 1 rfl), (HS.mu 2 rfl), (HS.mu 3 rfl), trivial⟩⟩, _, rfl, ?_⟩
      exact by (
      refine two__ 7 9 ?_ ?_
      · have HT_ := True.intro
        obtain ⟨t234, ha235, H⟩ := bind_some H
        refine dco_ 7 (w_none rfl) Try.func130 (spec_l10Gain.runs k213 b0 (⟨x0.f0, t227.2.f1, t227.2.f2⟩ : S140) A0_0 c0_0 (wrap64 (4 * (wrap64 (1 + t5.1)))) _ t234.1 t234.2 _ _ HS.b (HS.nodupM 4 rfl) (HS.boundM 4 rfl) (HS.footOM 4 rfl 1 rfl) hc0_0 (HS.mu 4 rfl) ha235) ?_
        clear ha235
        rintro _ w236 ⟨A237, c238, rfl, le239, hf240, hbx_, hrest_, hB1_⟩
        exact by (
        replace HS := HS.newM 4 rfl hB1_ hrest_ hbx_ (foot_cons hf240 foot_nil)
        dsimp only [List.set] at HS
        clear hB1_ hrest_ hbx_
        refine ⟨⟨HS.nowO, HS.nowN.2.2, ⟨(HS.mu 0 rfl), (HS.mu 1 rfl), (HS.mu 2 rfl), (HS.mu 3 rfl), trivial⟩⟩, _, rfl, ?_⟩
        refine db_ 8 [(0, .slice A230 t227.1.length c231), (5, .slice A237 t234.1.length c238)] (cells := #[.slice A230 t227.1.length c231, .int .i64 0, .slice none 0 0, .slice none 0 0, .int .i64 0, .int .i64 0, .int .i64 0, .slice none 0 0, .slice none 0 0, .int .i64 0, .int .i64 0, .int .i64 0, .slice none 0 0, .slice none 0 0, .int .i64 0, .int .i64 0, .int .i64 0, .slice none 0 0, .slice none 0 0, .int .i64 0, .int .i64 0, .slice A237 t234.1.length c238, .int .i64 0, .slice none 0 0, .slice none 0 0, .int .i64 0, .int .i64 0, .int .i64 0, .slice none 0 0, .slice none 0 0, .int .i64 0, .int .i64 0]) rfl rfl ⟨⟨rfl, rfl⟩, ⟨⟨rfl, rfl⟩, trivial⟩⟩ (by kernel_rfl) ?_
        refine WD.alloc (v := .agg #[.slice none 0 0, .int .i64 0, .slice none 0 0, .slice none 0 0, .int .i64 0, .int .i64 0, .int .i64 0, .slice none 0 0, .slice none 0 0, .int .i64 0, .int .i64 0, .int .i64 0, .slice none 0 0, .slice none 0 0, .int .i64 0, .int .i64 0, .int .i64 0, .slice none 0 0, .slice none 0 0, .int .i64 0, .int .i64 0, .slice none 0 0, .int .i64 0, .slice none 0 0, .slice none 0 0, .int .i64 0, .int .i64 0, .int .i64 0, .slice none 0 0, .slice none 0 0, .int .i64 0, .int .i64 0]) (cs := #[.slice none 0 0, .int .i64 0, .slice none 0 0, .slice none 0 0, .int .i64 0, .int .i64 0, .int .i64 0, .slice none 0 0, .slice none 0 0, .int .i64 0, .int .i64 0, .int .i64 0, .slice none 0 0, .slice none 0 0, .int .i64 0, .int .i64 0, .int .i64 0, .slice none 0 0, .slice none 0 0, .int .i64 0, .int .i64 0, .slice none 0 0, .int .i64 0, .slice none 0 0, .slice none 0 0, .int .i64 0, .int .i64 0, .int .i64 0, .slice none 0 0, .slice none 0 0, .int .i64 0, .int .i64 0]) 9 (w_none rfl) HS rfl (by kernel_rfl) rfl (fun b241 w242 hb241 HS => ?_)
        exact by (
        refine ⟨⟨HS.nowO, HS.nowN.2.2, ⟨(HS.mu 1 rfl), (HS.mu 2 rfl), (HS.mu 3 rfl), (HS.mu 4 rfl), trivial⟩⟩, ?_⟩
        refine WD.storeSL 10 HS 0 (vs := [.slice A230 t227.1.length c231, .int .i64 0, .slice none 0 0, .slice none 0 0, .int .i64 0, .int .i64 0, .int .i64 0, .slice none 0 0, .slice none 0 0, .int .i64 0, .int .i64 0, .int .i64 0, .slice none 0 0, .slice none 0 0, .int .i64 0, .int .i64 0, .int .i64 0, .slice none 0 0, .slice none 0 0, .int .i64 0, .int .i64 0, .slice A237 t234.1.length c238, .int .i64 0, .slice none 0 0, .slice none 0 0, .int .i64 0, .int .i64 0, .int .i64 0, .slice none 0 0, .slice none 0 0, .int .i64 0, .int .i64 0]) rfl rfl rfl rfl (one_cons rfl (one_cons rfl (one_cons rfl (one_cons rfl (one_cons rfl (one_cons rfl (one_cons rfl (one_cons rfl (one_cons rfl (one_cons rfl (one_cons rfl (one_cons rfl (one_cons rfl (one_cons rfl (one_cons rfl (one_cons rfl (one_cons rfl (one_cons rfl (one_cons rfl (one_cons rfl (one_cons rfl (one_cons rfl (one_cons rfl (one_cons rfl (one_cons rfl (one_cons rfl (one_cons rfl (one_cons rfl (one_cons rfl (one_cons rfl (one_cons rfl (one_cons rfl one_nil)))))))))))))))))))))))))))))))) (by kernel_rfl) (Nat.le_of_ble_eq_true rfl) (cs' := #[.slice A230 t227.1.length c231, .int .i64 0, .slice none 0 0, .slice none 0 0, .int .i64 0, .int .i64 0, .int .i64 0, .slice none 0 0, .slice none 0 0, .int .i64 0, .int .i64 0, .int .i64 0, .slice none 0 0, .slice none 0 0, .int .i64 0, .int .i64 0, .int .i64 0, .slice none 0 0, .slice none 0 0, .int .i64 0, .int .i64 0, .slice A237 t234.1.length c238, .int .i64 0, .slice none 0 0, .slice none 0 0, .int .i64 0, .int .i64 0, .int .i64 0, .slice none 0 0, .slice none 0 0, .int .i64 0, .int .i64 0]) (by kernel_rfl) (fun w243 HS => ?_)
        dsimp only [List.set] at HS
        refine dd_ ?_
        refine via_ hK225 ?_
        clear hK225
        exact by (
        refine sr_ fun _ hK244 => ?_
        refine mv_ ?_
        refine v_ (fa_ Try.underlying39) ?_
        refine v_ (lb_ (HS.mu 3 rfl) Try.underlying3 rfl) ?_
        refine v_ (fa_ Try.underlying39) ?_
        refine v_ (lb_ (HS.mu 3 rfl) Try.underlying3 rfl) ?_
        exact by (
        obtain ⟨t245, ha246, H⟩ := bind_some H
        refine c_ Try.func131 (spec_l05Matrix.runs k213 b0 (⟨x0.f0, t234.2.f1, t234.2.f2⟩ : S140) A0_0 c0_0 (wrap64 (4 * (wrap64 (1 + t5.1)))) (wrap64 (4 * (wrap64 (1 + t5.1)))) _ t245.1 t245.2 _ _ HS.b (HS.nodupM 5 rfl) (HS.boundM 5 rfl) (HS.footOM 5 rfl 1 rfl) hc0_0 (HS.mu 5 rfl) ha246) ?_
        clear ha246
        rintro _ w247 ⟨A248, c249, A252, c253, rfl, le250, hf251, le254, hf255, hbx_, hrest_, hB1_⟩
        replace HS := HS.newM 5 rfl hB1_ hrest_ hbx_ (foot_cons hf251 (foot_cons hf255 foot_nil))
        dsimp only [List.set] at HS
        exact by (
        clear hB1_ hrest_ hbx_
        refine ⟨_, rfl, ?_⟩
        refine v_ (fa_ Try.underlying48) ?_
        refine WL.storeS HS 0 (vs := [.int .i64 t245.1.f0, .slice A248 t245.1.f1.length c249, .slice A252 t245.1.f2.length c253, .int .i64 t245.1.f3, .int .i64 t245.1.f4]) rfl rfl rfl rfl rfl rfl (one_cons rfl (one_cons rfl (one_cons rfl (one_cons rfl (one_cons rfl one_nil))))) (by kernel_rfl) (Nat.le_of_ble_eq_true rfl) (cs' := #[.slice A230 t227.1.length c231, .int .i64 t245.1.f0, .slice A248 t245.1.f1.length c249, .slice A252 t245.1.f2.length c253, .int .i64 t245.1.f3, .int .i64 t245.1.f4, .int .i64 0, .slice none 0 0, .slice none 0 0, .int .i64 0, .int .i64 0, .int .i64 0, .slice none 0 0, .slice none 0 0, .int .i64 0, .int .i64 0, .int .i64 0, .slice none 0 0, .slice none 0 0, .int .i64 0, .int .i64 0, .slice A237 t234.1.length c238, .int .i64 0, .slice none 0 0, .slice none 0 0, .int .i64 0, .int .i64 0, .int .i64 0, .slice none 0 0, .slice none 0 0, .int .i64 0, .int .i64 0]) (by kernel_rfl) (fun w256 HS => ?_)
        dsimp only [List.set] at HS
        refine dn_ hK244 ?_
        exact by (
        clear hK244
        refine sr_ fun _ hK257 => ?_
        refine mv_ ?_
        refine v_ (fa_ Try.underlying39) ?_
        refine v_ (lb_ (HS.mu 3 rfl) Try.underlying3 rfl) ?_
        refine v_ (fa_ Try.underlying39) ?_
        exact by (
        refine v_ (lb_ (HS.mu 3 rfl) Try.underlying3 rfl) ?_
        obtain ⟨t258, ha259, H⟩ := bind_some H
        refine c_ Try.func131 (spec_l05Matrix.runs k213 b0 (⟨x0.f0, t245.2.f1, t245.2.f2⟩ : S140) A0_0 c0_0 (wrap64 (4 * (wrap64 (1 + t5.1)))) (wrap64 (4 * (wrap64 (1 + t5.1)))) _ t258.1 t258.2 _ _ HS.b (HS.nodupM 5 rfl) (HS.boundM 5 rfl) (HS.footOM 5 rfl 1 rfl) hc0_0 (HS.mu 5 rfl) ha259) ?_
        clear ha259
        rintro _ w260 ⟨A261, c262, A265, c266, rfl, le263, hf264, le267, hf268, hbx_, hrest_, hB1_⟩
        replace HS := HS.newM 5 rfl hB1_ hrest_ hbx_ (foot_cons hf264 (foot_cons hf268 foot_nil))
        exact by (
        dsimp only [List.set] at HS
        clear hB1_ hrest_ hbx_
        refine ⟨_, rfl, ?_⟩
        refine v_ (fa_ Try.underlying48) ?_
        refine WL.storeS HS 0 (vs := [.int .i64 t258.1.f0, .slice A261 t258.1.f1.length c262, .slice A265 t258.1.f2.length c266, .int .i64 t258.1.f3, .int .i64 t258.1.f4]) rfl rfl rfl rfl rfl rfl (one_cons rfl (one_cons rfl (one_cons rfl (one_cons rfl (one_cons rfl one_nil))))) (by kernel_rfl) (Nat.le_of_ble_eq_true rfl) (cs' := #[.slice A230 t227.1.length c231, .int .i64 t245.1.f0, .slice A248 t245.1.f1.length c249, .slice A252 t245.1.f2.length c253, .int .i64 t245.1.f3, .int .i64 t245.1.f4, .int .i64 t258.1.f0, .slice A261 t258.1.f1.length c262, .slice A265 t258.1.f2.length c266, .int .i64 t258.1.f3, .int .i64 t258.1.f4, .int .i64 0, .slice none 0 0, .slice none 0 0, .int .i64 0, .int .i64 0, .int .i64 0, .slice none 0 0, .slice none 0 0, .int .i64 0, .int .i64 0, .slice A237 t234.1.length c238, .int .i64 0, .slice none 0 0, .slice none 0 0, .int .i64 0, .int .i64 0, .int .i64 0, .slice none 0 0, .slice none 0 0, .int .i64 0, .int .i64 0]) (by kernel_rfl) (fun w269 HS => ?_)
        dsimp only [List.set] at HS
        exact by (
        refine dn_ hK257 ?_
        clear hK257
        refine sr_ fun _ hK270 => ?_
        refine mv_ ?_
        refine v_ (fa_ Try.underlying39) ?_
        refine v_ (lb_ (HS.mu 3 rfl) Try.underlying3 rfl) ?_
        exact by (
        refine v_ (fa_ Try.underlying39) ?_
        refine v_ (lb_ (HS.mu 3 rfl) Try.underlying3 rfl) ?_
        obtain ⟨t271, ha272, H⟩ := bind_some H
        refine c_ Try.func131 (spec_l05Matrix.runs k213 b0 (⟨x0.f0, t258.2.f1, t258.2.f2⟩ : S140) A0_0 c0_0 (wrap64 (4 * (wrap64 (1 + t5.1)))) (wrap64 (4 * (wrap64 (1 + t5.1)))) _ t271.1 t271.2 _ _ HS.b (HS.nodupM 5 rfl) (HS.boundM 5 rfl) (HS.footOM 5 rfl 1 rfl) hc0_0 (HS.mu 5 rfl) ha272) ?_
        clear ha272
        rintro _ w273 ⟨A274, c275, A278, c279, rfl, le276, hf277, le280, hf281, hbx_, hrest_, hB1_⟩
        exact by (
        replace HS := HS.newM 5 rfl hB1_ hrest_ hbx_ (foot_cons hf277 (foot_cons hf281 foot_nil))
        dsimp only [List.set] at HS
        clear hB1_ hrest_ hbx_
        refine ⟨_, rfl, ?_⟩
        refine v_ (fa_ Try.underlying48) ?_
        refine WL.storeS HS 0 (vs := [.int .i64 t271.1.f0, .slice A274 t271.1.f1.length c275, .slice A278 t271.1.f2.length c279, .int .i64 t271.1.f3, .int .i64 t271.1.f4]) rfl rfl rfl rfl rfl rfl (one_cons rfl (one_cons rfl (one_cons rfl (one_cons rfl (one_cons rfl one_nil))))) (by kernel_rfl) (Nat.le_of_ble_eq_true rfl) (cs' := #[.slice A230 t227.1.length c231, .int .i64 t245.1.f0, .slice A248 t245.1.f1.length c249, .slice A252 t245.1.f2.length c253, .int .i64 t245.1.f3, .int .i64 t245.1.f4, .int .i64 t258.1.f0, .slice A261 t258.1.f1.length c262, .slice A265 t258.1.f2.length c266, .int .i64 t258.1.f3, .int .i64 t258.1.f4, .int .i64 t271.1.f0, .slice A274 t271.1.f1.length c275, .slice A278 t271.1.f2.length c279, .int .i64 t271.1.f3, .int .i64 t271.1.f4, .int .i64 0, .slice none 0 0, .slice none 0 0, .int .i64 0, .int .i64 0, .slice A237 t234.1.length c238, .int .i64 0, .slice none 0 0, .slice none 0 0, .int .i64 0, .int .i64 0, .int .i64 0, .slice none 0 0, .slice none 0 0, .int .i64 0, .int .i64 0]) (by kernel_rfl) (fun w282 HS => ?_)
        exact by (
        dsimp only [List.set] at HS
        refine dn_ hK270 ?_
        clear hK270
        refine sr_ fun _ hK283 => ?_
        refine mv_ ?_
        refine v_ (fa_ Try.underlying39) ?_
        exact by (
        refine v_ (lb_ (HS.mu 3 rfl) Try.underlying3 rfl) ?_
        refine v_ (fa_ Try.underlying39) ?_
        refine v_ (lb_ (HS.mu 3 rfl) Try.underlying3 rfl) ?_
        obtain ⟨t284, ha285, H⟩ := bind_some H
        refine c_ Try.func131 (spec_l05Matrix.runs k213 b0 (⟨x0.f0, t271.2.f1, t271.2.f2⟩ : S140) A0_0 c0_0 (wrap64 (4 * (wrap64 (1 + t5.1)))) (wrap64 (4 * (wrap64 (1 + t5.1)))) _ t284.1 t284.2 _ _ HS.b (HS.nodupM 5 rfl) (HS.boundM 5 rfl) (HS.footOM 5 rfl 1 rfl) hc0_0 (HS.mu 5 rfl) ha285) ?_
        clear ha285
        exact by (
        rintro _ w286 ⟨A287, c288, A291, c292, rfl, le289, hf290, le293, hf294, hbx_, hrest_, hB1_⟩
        replace HS := HS.newM 5 rfl hB1_ hrest_ hbx_ (foot_cons hf290 (foot_cons hf294 foot_nil))
        dsimp only [List.set] at HS
        clear hB1_ hrest_ hbx_
        refine ⟨_, rfl, ?_⟩
        refine v_ (fa_ Try.underlying48) ?_
        exact by (
        refine WL.storeS HS 0 (vs := [.int .i64 t284.1.f0, .slice A287 t284.1.f1.length c288, .slice A291 t284.1.f2.length c292, .int .i64 t284.1.f3, .int .i64 t284.1.f4]) rfl rfl rfl rfl rfl rfl (one_cons rfl (one_cons rfl (one_cons rfl (one_cons rfl (one_cons rfl one_nil))))) (by kernel_rfl) (Nat.le_of_ble_eq_true rfl) (cs' := #[.slice A230 t227.1.length c231, .int .i64 t245.1.f0, .slice A248 t245.1.f1.length c249, .slice A252 t245.1.f2.length c253, .int .i64 t245.1.f3, .int .i64 t245.1.f4, .int .i64 t258.1.f0, .slice A261 t258.1.f1.length c262, .slice A265 t258.1.f2.length c266, .int .i64 t258.1.f3, .int .i64 t258.1.f4, .int .i64 t271.1.f0, .slice A274 t271.1.f1.length c275, .slice A278 t271.1.f2.length c279, .int .i64 t271.1.f3, .int .i64 t271.1.f4, .int .i64 t284.1.f0, .slice A287 t284.1.f1.length c288, .slice A291 t284.1.f2.length c292, .int .i64 t284.1.f3, .int .i64 t284.1.f4, .slice A237 t234.1.length c238, .int .i64 0, .slice none 0 0, .slice none 0 0, .int .i64 0, .int .i64 0, .int .i64 0, .slice none 0 0, .slice none 0 0, .int .i64 0, .int .i64 0]) (by kernel_rfl) (fun w295 HS => ?_)
        dsimp only [List.set] at HS
        refine dn_ hK283 ?_
        clear hK283
        refine sr_ fun _ hK296 => ?_
        refine mv_ ?_
        exact by (
        refine v_ (fa_ Try.underlying39) ?_
        refine v_ (lb_ (HS.mu 3 rfl) Try.underlying3 rfl) ?_
        refine mv_ ?_
        obtain ⟨t297, ha298, H⟩ := bind_some H
        refine c_ Try.func131 (spec_l05Matrix.runs k213 b0 (⟨x0.f0, t284.2.f1, t284.2.f2⟩ : S140) A0_0 c0_0 (wrap64 (4 * (wrap64 (1 + t5.1)))) (wrap64 (4 * (wrap64 (1 + t222.1)))) _ t297.1 t297.2 _ _ HS.b (HS.nodupM 5 rfl) (HS.boundM 5 rfl) (HS.footOM 5 rfl 1 rfl) hc0_0 (HS.mu 5 rfl) ha298) ?_
        clear ha298
        exact by (
        rintro _ w299 ⟨A300, c301, A304, c305, rfl, le302, hf303, le306, hf307, hbx_, hrest_, hB1_⟩
        replace HS := HS.newM 5 rfl hB1_ hrest_ hbx_ (foot_cons hf303 (foot_cons hf307 foot_nil))
        dsimp only [List.set] at HS
        clear hB1_ hrest_ hbx_
        refine ⟨_, rfl, ?_⟩
        refine v_ (fa_ Try.underlying48) ?_
        exact by (
        refine WL.storeS HS 0 (vs := [.int .i64 t297.1.f0, .slice A300 t297.1.f1.length c301, .slice A304 t297.1.f2.length c305, .int .i64 t297.1.f3, .int .i64 t297.1.f4]) rfl rfl rfl rfl rfl rfl (one_cons rfl (one_cons rfl (one_cons rfl (one_cons rfl (one_cons rfl one_nil))))) (by kernel_rfl) (Nat.le_of_ble_eq_true rfl) (cs' := #[.slice A230 t227.1.length c231, .int .i64 t245.1.f0, .slice A248 t245.1.f1.length c249, .slice A252 t245.1.f2.length c253, .int .i64 t245.1.f3, .int .i64 t245.1.f4, .int .i64 t258.1.f0, .slice A261 t258.1.f1.length c262, .slice A265 t258.1.f2.length c266, .int .i64 t258.1.f3, .int .i64 t258.1.f4, .int .i64 t271.1.f0, .slice A274 t271.1.f1.length c275, .slice A278 t271.1.f2.length c279, .int .i64 t271.1.f3, .int .i64 t271.1.f4, .int .i64 t284.1.f0, .slice A287 t284.1.f1.length c288, .slice A291 t284.1.f2.length c292, .int .i64 t284.1.f3, .int .i64 t284.1.f4, .slice A237 t234.1.length c238, .int .i64 t297.1.f0, .slice A300 t297.1.f1.length c301, .slice A304 t297.1.f2.length c305, .int .i64 t297.1.f3, .int .i64 t297.1.f4, .int .i64 0, .slice none 0 0, .slice none 0 0, .int .i64 0, .int .i64 0]) (by kernel_rfl) (fun w308 HS => ?_)
        dsimp only [List.set] at HS
        refine dn_ hK296 ?_
        clear hK296
        refine sr_ fun _ hK309 => ?_
        refine mv_ ?_
        exact by (
        refine mv_ ?_
        refine v_ (fa_ Try.underlying39) ?_
        refine v_ (lb_ (HS.mu 3 rfl) Try.underlying3 rfl) ?_
        obtain ⟨t310, ha311, H⟩ := bind_some H
        refine c_ Try.func131 (spec_l05Matrix.runs k213 b0 (⟨x0.f0, t297.2.f1, t297.2.f2⟩ : S140) A0_0 c0_0 (wrap64 (4 * (wrap64 (1 + t222.1)))) (wrap64 (4 * (wrap64 (1 + t5.1)))) _ t310.1 t310.2 _ _ HS.b (HS.nodupM 5 rfl) (HS.boundM 5 rfl) (HS.footOM 5 rfl 1 rfl) hc0_0 (HS.mu 5 rfl) ha311) ?_
        clear ha311
        exact by (
        rintro _ w312 ⟨A313, c314, A317, c318, rfl, le315, hf316, le319, hf320, hbx_, hrest_, hB1_⟩
        replace HS := HS.newM 5 rfl hB1_ hrest_ hbx_ (foot_cons hf316 (foot_cons hf320 foot_nil))
        dsimp only [List.set] at HS
        clear hB1_ hrest_ hbx_
        refine ⟨_, rfl, ?_⟩
        refine v_ (fa_ Try.underlying48) ?_
        exact by (
        refine WL.storeS HS 0 (vs := [.int .i64 t310.1.f0, .slice A313 t310.1.f1.length c314, .slice A317 t310.1.f2.length c318, .int .i64 t310.1.f3, .int .i64 t310.1.f4]) rfl rfl rfl rfl rfl rfl (one_cons rfl (one_cons rfl (one_cons rfl (one_cons rfl (one_cons rfl one_nil))))) (by kernel_rfl) (Nat.le_of_ble_eq_true rfl) (cs' := #[.slice A230 t227.1.length c231, .int .i64 t245.1.f0, .slice A248 t245.1.f1.length c249, .slice A252 t245.1.f2.length c253, .int .i64 t245.1.f3, .int .i64 t245.1.f4, .int .i64 t258.1.f0, .slice A261 t258.1.f1.length c262, .slice A265 t258.1.f2.length c266, .int .i64 t258.1.f3, .int .i64 t258.1.f4, .int .i64 t271.1.f0, .slice A274 t271.1.f1.length c275, .slice A278 t271.1.f2.length c279, .int .i64 t271.1.f3, .int .i64 t271.1.f4, .int .i64 t284.1.f0, .slice A287 t284.1.f1.length c288, .slice A291 t284.1.f2.length c292, .int .i64 t284.1.f3, .int .i64 t284.1.f4, .slice A237 t234.1.length c238, .int .i64 t297.1.f0, .slice A300 t297.1.f1.length c301, .slice A304 t297.1.f2.length c305, .int .i64 t297.1.f3, .int .i64 t297.1.f4, .int .i64 t310.1.f0, .slice A313 t310.1.f1.length c314, .slice A317 t310.1.f2.length c318, .int .i64 t310.1.f3, .int .i64 t310.1.f4]) (by kernel_rfl) (fun w321 HS => ?_)
        dsimp only [List.set] at HS
        refine dn_ hK309 ?_
        clear hK309
        refine rg_ ?_
        refine v_ (fa_ Try.underlying39) ?_
        exact by (
        obtain ⟨A322, c323, rfl⟩ := row_slice (HS.mu 1 rfl)
        refine v_ (lb_ (HS.mu 3 rfl) Try.underlying35 rfl) ?_
        refine v_ (ls_ (HS.mu 0 rfl) Try.underlying48 part_all) ?_
        refine WL.val rfl rfl (by decide) (Run.lit1 (z := (.agg #[.slice none 0 0, .int .i64 0, .slice none 0 0, .slice none 0 0, .int .i64 0, .int .i64 0, .int .i64 0, .slice none 0 0, .slice none 0 0, .int .i64 0, .int .i64 0, .int .i64 0, .slice none 0 0, .slice none 0 0, .int .i64 0, .int .i64 0, .int .i64 0, .slice none 0 0, .slice none 0 0, .int .i64 0, .int .i64 0, .slice none 0 0, .int .i64 0, .slice none 0 0, .slice none 0 0, .int .i64 0, .int .i64 0, .int .i64 0, .slice none 0 0, .slice none 0 0, .int .i64 0, .int .i64 0])) (vs := [.slice A230 t227.1.length c231, .int .i64 t245.1.f0, .slice A248 t245.1.f1.length c249, .slice A252 t245.1.f2.length c253, .int .i64 t245.1.f3, .int .i64 t245.1.f4, .int .i64 t258.1.f0, .slice A261 t258.1.f1.length c262, .slice A265 t258.1.f2.length c266, .int .i64 t258.1.f3, .int .i64 t258.1.f4, .int .i64 t271.1.f0, .slice A274 t271.1.f1.length c275, .slice A278 t271.1.f2.length c279, .int .i64 t271.1.f3, .int .i64 t271.1.f4, .int .i64 t284.1.f0, .slice A287 t284.1.f1.length c288, .slice A291 t284.1.f2.length c292, .int .i64 t284.1.f3, .int .i64 t284.1.f4, .slice A237 t234.1.length c238, .int .i64 t297.1.f0, .slice A300 t297.1.f1.length c301, .slice A304 t297.1.f2.length c305, .int .i64 t297.1.f3, .int .i64 t297.1.f4, .int .i64 t310.1.f0, .slice A313 t310.1.f1.length c314, .slice A317 t310.1.f2.length c318, .int .i64 t310.1.f3, .int .i64 t310.1.f4]) rfl rfl rfl Try.underlying35 (by kernel_rfl) (Nat.le_of_ble_eq_true rfl) (Nat.le_of_ble_eq_true rfl)) ?_
        have HS1 := HS.below (below_alloc (Below.refl _ _) (.cells #[.slice A230 t227.1.length c231, .int .i64 t245.1.f0, .slice A248 t245.1.f1.length c249, .slice A252 t245.1.f2.length c253, .int .i64 t245.1.f3, .int .i64 t245.1.f4, .int .i64 t258.1.f0, .slice A261 t258.1.f1.length c262, .slice A265 t258.1.f2.length c266, .int .i64 t258.1.f3, .int .i64 t258.1.f4, .int .i64 t271.1.f0, .slice A274 t271.1.f1.length c275, .slice A278 t271.1.f2.length c279, .int .i64 t271.1.f3, .int .i64 t271.1.f4, .int .i64 t284.1.f0, .slice A287 t284.1.f1.length c288, .slice A291 t284.1.f2.length c292, .int .i64 t284.1.f3, .int .i64 t284.1.f4, .slice A237 t234.1.length c238, .int .i64 t297.1.f0, .slice A300 t297.1.f1.length c301, .slice A304 t297.1.f2.length c305, .int .i64 t297.1.f3, .int .i64 t297.1.f4, .int .i64 t310.1.f0, .slice A313 t310.1.f1.length c314, .slice A317 t310.1.f2.length c318, .int .i64 t310.1.f3, .int .i64 t310.1.f4] 48))
        obtain ⟨q324, H⟩ := if_some H
        exact by (
        refine WL.append HS1 1 rfl rfl rfl (by decide) rfl (.agg #[.slice none 0 0, .int .i64 0, .slice none 0 0, .slice none 0 0, .int .i64 0, .int .i64 0, .int .i64 0, .slice none 0 0, .slice none 0 0, .int .i64 0, .int .i64 0, .int .i64 0, .slice none 0 0, .slice none 0 0, .int .i64 0, .int .i64 0, .int .i64 0, .slice none 0 0, .slice none 0 0, .int .i64 0, .int .i64 0, .slice none 0 0, .int .i64 0, .slice none 0 0, .slice none 0 0, .int .i64 0, .int .i64 0, .int .i64 0, .slice none 0 0, .slice none 0 0, .int .i64 0, .int .i64 0]) 480 Try.underlying35 (by kernel_rfl) rfl (by decide) (by decide) rfl rfl [.slice A230 t227.1.length c231, .int .i64 t245.1.f0, .slice A248 t245.1.f1.length c249, .slice A252 t245.1.f2.length c253, .int .i64 t245.1.f3, .int .i64 t245.1.f4, .int .i64 t258.1.f0, .slice A261 t258.1.f1.length c262, .slice A265 t258.1.f2.length c266, .int .i64 t258.1.f3, .int .i64 t258.1.f4, .int .i64 t271.1.f0, .slice A274 t271.1.f1.length c275, .slice A278 t271.1.f2.length c279, .int .i64 t271.1.f3, .int .i64 t271.1.f4, .int .i64 t284.1.f0, .slice A287 t284.1.f1.length c288, .slice A291 t284.1.f2.length c292, .int .i64 t284.1.f3, .int .i64 t284.1.f4, .slice A237 t234.1.length c238, .int .i64 t297.1.f0, .slice A300 t297.1.f1.length c301, .slice A304 t297.1.f2.length c305, .int .i64 t297.1.f3, .int .i64 t297.1.f4, .int .i64 t310.1.f0, .slice A313 t310.1.f1.length c314, .slice A317 t310.1.f2.length c318, .int .i64 t310.1.f3, .int .i64 t310.1.f4] rfl (lit_news _ _ _) (one_cons rfl (one_cons rfl (one_cons rfl (one_cons rfl (one_cons rfl (one_cons rfl (one_cons rfl (one_cons rfl (one_cons rfl (one_cons rfl (one_cons rfl (one_cons rfl (one_cons rfl (one_cons rfl (one_cons rfl (one_cons rfl (one_cons rfl (one_cons rfl (one_cons rfl (one_cons rfl (one_cons rfl (one_cons rfl (one_cons rfl (one_cons rfl (one_cons rfl (one_cons rfl (one_cons rfl (one_cons rfl (one_cons rfl (one_cons rfl (one_cons rfl (one_cons rfl one_nil)))))))))))))))))))))))))))))))) (by omega) ((xs55 ++ [(⟨t227.1, (⟨t245.1.f0, t245.1.f1, t245.1.f2, t245.1.f3, t245.1.f4⟩ : S36), (⟨t258.1.f0, t258.1.f1, t258.1.f2, t258.1.f3, t258.1.f4⟩ : S36), (⟨t271.1.f0, t271.1.f1, t271.1.f2, t271.1.f3, t271.1.f4⟩ : S36), (⟨t284.1.f0, t284.1.f1, t284.1.f2, t284.1.f3, t284.1.f4⟩ : S36), t234.1, (⟨t297.1.f0, t297.1.f1, t297.1.f2, t297.1.f3, t297.1.f4⟩ : S36), (⟨t310.1.f0, t310.1.f1, t310.1.f2, t310.1.f3, t310.1.f4⟩ : S36)⟩ : S48)]).length) (by simp) (fun v325 w326 I327 hI328 HS => ?_)
        dsimp only [List.set] at HS
        replace HS := HS.deriveN (p := (fun W => Reps (k48.K W) k48.sz (xs55 ++ [(⟨t227.1, (⟨t245.1.f0, t245.1.f1, t245.1.f2, t245.1.f3, t245.1.f4⟩ : S36), (⟨t258.1.f0, t258.1.f1, t258.1.f2, t258.1.f3, t258.1.f4⟩ : S36), (⟨t271.1.f0, t271.1.f1, t271.1.f2, t271.1.f3, t271.1.f4⟩ : S36), (⟨t284.1.f0, t284.1.f1, t284.1.f2, t284.1.f3, t284.1.f4⟩ : S36), t234.1, (⟨t297.1.f0, t297.1.f1, t297.1.f2, t297.1.f3, t297.1.f4⟩ : S36), (⟨t310.1.f0, t310.1.f1, t310.1.f2, t310.1.f3, t310.1.f4⟩ : S36)⟩ : S48)]) I327)) (fun W_ hN_ => reps_snoc hI328 (AllF.get 14 rfl hN_) (k48_mk _ (⟨t227.1, (⟨t245.1.f0, t245.1.f1, t245.1.f2, t245.1.f3, t245.1.f4⟩ : S36), (⟨t258.1.f0, t258.1.f1, t258.1.f2, t258.1.f3, t258.1.f4⟩ : S36), (⟨t271.1.f0, t271.1.f1, t271.1.f2, t271.1.f3, t271.1.f4⟩ : S36), (⟨t284.1.f0, t284.1.f1, t284.1.f2, t284.1.f3, t284.1.f4⟩ : S36), t234.1, (⟨t297.1.f0, t297.1.f1, t297.1.f2, t297.1.f3, t297.1.f4⟩ : S36), (⟨t310.1.f0, t310.1.f1, t310.1.f2, t310.1.f3, t310.1.f4⟩ : S36)⟩ : S48) (le232) (AllF.get 13 rfl hN_) (le250) (AllF.get 10 rfl hN_) (le254) (AllF.get 11 rfl hN_) (le263) (AllF.get 8 rfl hN_) (le267) (AllF.get 9 rfl hN_) (le276) (AllF.get 6 rfl hN_) (le280) (AllF.get 7 rfl hN_) (le289) (AllF.get 4 rfl hN_) (le293) (AllF.get 5 rfl hN_) (le239) (AllF.get 12 rfl hN_) (le302) (AllF.get 2 rfl hN_) (le306) (AllF.get 3 rfl hN_) (le315) (AllF.get 0 rfl hN_) (le319) (AllF.get 1 rfl hN_)))
        clear HS1
        refine v_ (fa_ Try.underlying39) ?_
        obtain ⟨A330, c331, rfl⟩ := row_slice (HS.mu 1 rfl)
        exact by (
        refine WL.store HS 3 rfl rfl rfl rfl rfl rfl rfl (by kernel_rfl) (Nat.le_of_ble_eq_true rfl) (cs' := #[.int .i64 (wrap64 (4 * (wrap64 (1 + t5.1)))), .int .i64 (wrap64 (1 + t8.1)), .int .i64 (wrap64 (4 + t11.1)), .slice A21 t18.1.length c22, v42, (.slice A330 ((xs55 ++ [(⟨t227.1, (⟨t245.1.f0, t245.1.f1, t245.1.f2, t245.1.f3, t245.1.f4⟩ : S36), (⟨t258.1.f0, t258.1.f1, t258.1.f2, t258.1.f3, t258.1.f4⟩ : S36), (⟨t271.1.f0, t271.1.f1, t271.1.f2, t271.1.f3, t271.1.f4⟩ : S36), (⟨t284.1.f0, t284.1.f1, t284.1.f2, t284.1.f3, t284.1.f4⟩ : S36), t234.1, (⟨t297.1.f0, t297.1.f1, t297.1.f2, t297.1.f3, t297.1.f4⟩ : S36), (⟨t310.1.f0, t310.1.f1, t310.1.f2, t310.1.f3, t310.1.f4⟩ : S36)⟩ : S48)]).length) c331), .slice none 0 0, .int .i64 0, .slice none 0 0, .slice none 0 0, .int .i64 0, .int .i64 0, .slice none 0 0, .slice none 0 0]) (by kernel_rfl) (fun w329 HS => ?_)
        dsimp only [List.set] at HS
        refine dn_ hK220 ?_
        clear hK220
        refine rg_ ?_
        refine mv_ ?_
        exact by (
        refine b_ bin_add64 ?_
        refine as_ ?_
        refine WL.done ?_
        exact WQ.round k213 (fun _ _ h_ => h_) (Nat.lt_succ_self _) ⟨(wrap64 (i52 + 1)), t310.2.f1, t310.2.f2, (xs55 ++ [(⟨t227.1, (⟨t245.1.f0, t245.1.f1, t245.1.f2, t245.1.f3, t245.1.f4⟩ : S36), (⟨t258.1.f0, t258.1.f1, t258.1.f2, t258.1.f3, t258.1.f4⟩ : S36), (⟨t271.1.f0, t271.1.f1, t271.1.f2, t271.1.f3, t271.1.f4⟩ : S36), (⟨t284.1.f0, t284.1.f1, t284.1.f2, t284.1.f3, t284.1.f4⟩ : S36), t234.1, (⟨t297.1.f0, t297.1.f1, t297.1.f2, t297.1.f3, t297.1.f4⟩ : S36), (⟨t310.1.f0, t310.1.f1, t310.1.f2, t310.1.f3, t310.1.f4⟩ : S36)⟩ : S48)]), (.slice A330 ((xs55 ++ [(⟨t227.1, (⟨t245.1.f0, t245.1.f1, t245.1.f2, t245.1.f3, t245.1.f4⟩ : S36), (⟨t258.1.f0, t258.1.f1, t258.1.f2, t258.1.f3, t258.1.f4⟩ : S36), (⟨t271.1.f0, t271.1.f1, t271.1.f2, t271.1.f3, t271.1.f4⟩ : S36), (⟨t284.1.f0, t284.1.f1, t284.1.f2, t284.1.f3, t284.1.f4⟩ : S36), t234.1, (⟨t297.1.f0, t297.1.f1, t297.1.f2, t297.1.f3, t297.1.f4⟩ : S36), (⟨t310.1.f0, t310.1.f1, t310.1.f2, t310.1.f3, t310.1.f4⟩ : S36)⟩ : S48)]).length) c331), I327, rfl, ⟨_, H, Ho51⟩, (St.pick (St.forget HS 0 rfl) (fun W_ h_ => ⟨AllF.get 0 rfl h_, AllF.get 1 rfl h_, trivial⟩) (fun W_ h_ => ⟨AllF.get 0 rfl h_, AllF.get 16 rfl h_, AllF.get 17 rfl h_, trivial⟩))⟩ ⟨rfl, rfl, rfl, rfl, rfl, rfl, trivial⟩ )))))))))))))))))))))))))
      · have HT_ := True.intro
        refine WDo.alloc (v := .agg #[.slice none 0 0, .int .i64 0, .slice none 0 0, .slice none 0 0, .int .i64 0, .int .i64 0, .int .i64 0, .slice none 0 0, .slice none 0 0, .int .i64 0, .int .i64 0, .int .i64 0, .slice none 0 0, .slice none 0 0, .int .i64 0, .int .i64 0, .int .i64 0, .slice none 0 0, .slice none 0 0, .int .i64 0, .int .i64 0, .slice none 0 0, .int .i64 0, .slice none 0 0, .slice none 0 0, .int .i64 0, .int .i64 0, .int .i64 0, .slice none 0 0, .slice none 0 0, .int .i64 0, .int .i64 0]) (cs := #[.slice none 0 0, .int .i64 0, .slice none 0 0, .slice none 0 0, .int .i64 0, .int .i64 0, .int .i64 0, .slice none 0 0, .slice none 0 0, .int .i64 0, .int .i64 0, .int .i64 0, .slice none 0 0, .slice none 0 0, .int .i64 0, .int .i64 0, .int .i64 0, .slice none 0 0, .slice none 0 0, .int .i64 0, .int .i64 0, .slice none 0 0, .int .i64 0, .slice none 0 0, .slice none 0 0, .int .i64 0, .int .i64 0, .int .i64 0, .slice none 0 0, .slice none 0 0, .int .i64 0, .int .i64 0]) 9 (w_none rfl) HS rfl (by kernel_rfl) rfl (fun b332 w333 hb332 HS => ?_)
        exact by (
        refine ⟨⟨HS.nowO, HS.nowN.2, ⟨(HS.mu 1 rfl), (HS.mu 2 rfl), (HS.mu 3 rfl), (HS.mu 4 rfl), trivial⟩⟩, ?_⟩
        obtain ⟨t334, ha335, H⟩ := bind_some H
        refine dc_ 7 (w_none rfl) Try.func130 (spec_l10Gain.runs k213 b0 (⟨x0.f0, t227.2.f1, t227.2.f2⟩ : S140) A0_0 c0_0 (wrap64 (4 * (wrap64 (1 + t5.1)))) _ t334.1 t334.2 _ _ HS.b (HS.nodupM 5 rfl) (HS.boundM 5 rfl) (HS.footOM 5 rfl 1 rfl) hc0_0 (HS.mu 5 rfl) ha335) ?_
        clear ha335
        rintro _ w336 ⟨A337, c338, rfl, le339, hf340, hbx_, hrest_, hB1_⟩
        replace HS := HS.newM 5 rfl hB1_ hrest_ hbx_ (foot_cons hf340 foot_nil)
        exact by (
        dsimp only [List.set] at HS
        clear hB1_ hrest_ hbx_
        refine ⟨⟨HS.nowO, HS.nowN.2.2, ⟨(HS.mu 1 rfl), (HS.mu 2 rfl), (HS.mu 3 rfl), (HS.mu 4 rfl), trivial⟩⟩, _, rfl, ?_⟩
        refine db_ 8 [(0, .slice A230 t227.1.length c231), (5, .slice A337 t334.1.length c338)] (cells := #[.slice A230 t227.1.length c231, .int .i64 0, .slice none 0 0, .slice none 0 0, .int .i64 0, .int .i64 0, .int .i64 0, .slice none 0 0, .slice none 0 0, .int .i64 0, .int .i64 0, .int .i64 0, .slice none 0 0, .slice none 0 0, .int .i64 0, .int .i64 0, .int .i64 0, .slice none 0 0, .slice none 0 0, .int .i64 0, .int .i64 0, .slice A337 t334.1.length c338, .int .i64 0, .slice none 0 0, .slice none 0 0, .int .i64 0, .int .i64 0, .int .i64 0, .slice none 0 0, .slice none 0 0, .int .i64 0, .int .i64 0]) rfl rfl ⟨⟨rfl, rfl⟩, ⟨⟨rfl, rfl⟩, trivial⟩⟩ (by kernel_rfl) ?_
        refine WD.storeSL 10 HS 0 (vs := [.slice A230 t227.1.length c231, .int .i64 0, .slice none 0 0, .slice none 0 0, .int .i64 0, .int .i64 0, .int .i64 0, .slice none 0 0, .slice none 0 0, .int .i64 0, .int .i64 0, .int .i64 0, .slice none 0 0, .slice none 0 0, .int .i64 0, .int .i64 0, .int .i64 0, .slice none 0 0, .slice none 0 0, .int .i64 0, .int .i64 0, .slice A337 t334.1.length c338, .int .i64 0, .slice none 0 0, .slice none 0 0, .int .i64 0, .int .i64 0, .int .i64 0, .slice none 0 0, .slice none 0 0, .int .i64 0, .int .i64 0]) rfl rfl rfl rfl (one_cons rfl (one_cons rfl (one_cons rfl (one_cons rfl (one_cons rfl (one_cons rfl (one_cons rfl (one_cons rfl (one_cons rfl (one_cons rfl (one_cons rfl (one_cons rfl (one_cons rfl (one_cons rfl (one_cons rfl (one_cons rfl (one_cons rfl (one_cons rfl (one_cons rfl (one_cons rfl (one_cons rfl (one_cons rfl (one_cons rfl (one_cons rfl (one_cons rfl (one_cons rfl (one_cons rfl (one_cons rfl (one_cons rfl (one_cons rfl (one_cons rfl (one_cons rfl one_nil)))))))))))))))))))))))))))))))) (by kernel_rfl) (Nat.le_of_ble_eq_true rfl) (cs' := #[.slice A230 t227.1.length c231, .int .i64 0, .slice none 0 0, .slice none 0 0, .int .i64 0, .int .i64 0, .int .i64 0, .slice none 0 0, .slice none 0 0, .int .i64 0, .int .i64 0, .int .i64 0, .slice none 0 0, .slice none 0 0, .int .i64 0, .int .i64 0, .int .i64 0, .slice none 0 0, .slice none 0 0, .int .i64 0, .int .i64 0, .slice A337 t334.1.length c338, .int .i64 0, .slice none 0 0, .slice none 0 0, .int .i64 0, .int .i64 0, .int .i64 0, .slice none 0 0, .slice none 0 0, .int .i64 0, .int .i64 0]) (by kernel_rfl) (fun w341 HS => ?_)
        dsimp only [List.set] at HS
        exact by (
        refine dd_ ?_
        refine via_ hK225 ?_
        clear hK225
        refine sr_ fun _ hK342 => ?_
        refine mv_ ?_
        refine v_ (fa_ Try.underlying39) ?_
        exact by (
        refine v_ (lb_ (HS.mu 3 rfl) Try.underlying3 rfl) ?_
        refine v_ (fa_ Try.underlying39) ?_
        refine v_ (lb_ (HS.mu 3 rfl) Try.underlying3 rfl) ?_
        obtain ⟨t343, ha344, H⟩ := bind_some H
        refine c_ Try.func131 (spec_l05Matrix.runs k213 b0 (⟨x0.f0, t334.2.f1, t334.2.f2⟩ : S140) A0_0 c0_0 (wrap64 (4 * (wrap64 (1 + t5.1)))) (wrap64 (4 * (wrap64 (1 + t5.1)))) _ t343.1 t343.2 _ _ HS.b (HS.nodupM 5 rfl) (HS.boundM 5 rfl) (HS.footOM 5 rfl 1 rfl) hc0_0 (HS.mu 5 rfl) ha344) ?_
        clear ha344
        exact by (
        rintro _ w345 ⟨A346, c347, A350, c351, rfl, le348, hf349, le352, hf353, hbx_, hrest_, hB1_⟩
        replace HS := HS.newM 5 rfl hB1_ hrest_ hbx_ (foot_cons hf349 (foot_cons hf353 foot_nil))
        dsimp only [List.set] at HS
        clear hB1_ hrest_ hbx_
        refine ⟨_, rfl, ?_⟩
        refine v_ (fa_ Try.underlying48) ?_
        exact by (
        refine WL.storeS HS 0 (vs := [.int .i64 t343.1.f0, .slice A346 t343.1.f1.length c347, .slice A350 t343.1.f2.length c351, .int .i64 t343.1.f3, .int .i64 t343.1.f4]) rfl rfl rfl rfl rfl rfl (one_cons rfl (one_cons rfl (one_cons rfl (one_cons rfl (one_cons rfl one_nil))))) (by kernel_rfl) (Nat.le_of_ble_eq_true rfl) (cs' := #[.slice A230 t227.1.length c231, .int .i64 t343.1.f0, .slice A346 t343.1.f1.length c347, .slice A350 t343.1.f2.length c351, .int .i64 t343.1.f3, .int .i64 t343.1.f4, .int .i64 0, .slice none 0 0, .slice none 0 0, .int .i64 0, .int .i64 0, .int .i64 0, .slice none 0 0, .slice none 0 0, .int .i64 0, .int .i64 0, .int .i64 0, .slice none 0 0, .slice none 0 0, .int .i64 0, .int .i64 0, .slice A337 t334.1.length c338, .int .i64 0, .slice none 0 0, .slice none 0 0, .int .i64 0, .int .i64 0, .int .i64 0, .slice none 0 0, .slice none 0 0, .int .i64 0, .int .i64 0]) (by kernel_rfl) (fun w354 HS => ?_)
        dsimp only [List.set] at HS
        refine dn_ hK342 ?_
        clear hK342
        refine sr_ fun _ hK355 => ?_
        refine mv_ ?_
        exact by (
        refine v_ (fa_ Try.underlying39) ?_
        refine v_ (lb_ (HS.mu 3 rfl) Try.underlying3 rfl) ?_
        refine v_ (fa_ Try.underlying39) ?_
        refine v_ (lb_ (HS.mu 3 rfl) Try.underlying3 rfl) ?_
        obtain ⟨t356, ha357, H⟩ := bind_some H
        refine c_ Try.func131 (spec_l05Matrix.runs k213 b0 (⟨x0.f0, t343.2.f1, t343.2.f2⟩ : S140) A0_0 c0_0 (wrap64 (4 * (wrap64 (1 + t5.1)))) (wrap64 (4 * (wrap64 (1 + t5.1)))) _ t356.1 t356.2 _ _ HS.b (HS.nodupM 5 rfl) (HS.boundM 5 rfl) (HS.footOM 5 rfl 1 rfl) hc0_0 (HS.mu 5 rfl) ha357) ?_
        exact by (
        clear ha357
        rintro _ w358 ⟨A359, c360, A363, c364, rfl, le361, hf362, le365, hf366, hbx_, hrest_, hB1_⟩
        replace HS := HS.newM 5 rfl hB1_ hrest_ hbx_ (foot_cons hf362 (foot_cons hf366 foot_nil))
        dsimp only [List.set] at HS
        clear hB1_ hrest_ hbx_
        refine ⟨_, rfl, ?_⟩
        exact by (
        refine v_ (fa_ Try.underlying48) ?_
        refine WL.storeS HS 0 (vs := [.int .i64 t356.1.f0, .slice A359 t356.1.f1.length c360, .slice A363 t356.1.f2.length c364, .int .i64 t356.1.f3, .int .i64 t356.1.f4]) rfl rfl rfl rfl rfl rfl (one_cons rfl (one_cons rfl (one_cons rfl (one_cons rfl (one_cons rfl one_nil))))) (by kernel_rfl) (Nat.le_of_ble_eq_true rfl) (cs' := #[.slice A230 t227.1.length c231, .int .i64 t343.1.f0, .slice A346 t343.1.f1.length c347, .slice A350 t343.1.f2.length c351, .int .i64 t343.1.f3, .int .i64 t343.1.f4, .int .i64 t356.1.f0, .slice A359 t356.1.f1.length c360, .slice A363 t356.1.f2.length c364, .int .i64 t356.1.f3, .int .i64 t356.1.f4, .int .i64 0, .slice none 0 0, .slice none 0 0, .int .i64 0, .int .i64 0, .int .i64 0, .slice none 0 0, .slice none 0 0, .int .i64 0, .int .i64 0, .slice A337 t334.1.length c338, .int .i64 0, .slice none 0 0, .slice none 0 0, .int .i64 0, .int .i64 0, .int .i64 0, .slice none 0 0, .slice none 0 0, .int .i64 0, .int .i64 0]) (by kernel_rfl) (fun w367 HS => ?_)
        dsimp only [List.set] at HS
        refine dn_ hK355 ?_
        clear hK355
        refine sr_ fun _ hK368 => ?_
        exact by (
        refine mv_ ?_
        refine v_ (fa_ Try.underlying39) ?_
        refine v_ (lb_ (HS.mu 3 rfl) Try.underlying3 rfl) ?_
        refine v_ (fa_ Try.underlying39) ?_
        refine v_ (lb_ (HS.mu 3 rfl) Try.underlying3 rfl) ?_
        obtain ⟨t369, ha370, H⟩ := bind_some H
        exact by (
        refine c_ Try.func131 (spec_l05Matrix.runs k213 b0 (⟨x0.f0, t356.2.f1, t356.2.f2⟩ : S140) A0_0 c0_0 (wrap64 (4 * (wrap64 (1 + t5.1)))) (wrap64 (4 * (wrap64 (1 + t5.1)))) _ t369.1 t369.2 _ _ HS.b (HS.nodupM 5 rfl) (HS.boundM 5 rfl) (HS.footOM 5 rfl 1 rfl) hc0_0 (HS.mu 5 rfl) ha370) ?_
        clear ha370
        rintro _ w371 ⟨A372, c373, A376, c377, rfl, le374, hf375, le378, hf379, hbx_, hrest_, hB1_⟩
        replace HS := HS.newM 5 rfl hB1_ hrest_ hbx_ (foot_cons hf375 (foot_cons hf379 foot_nil))
        dsimp only [List.set] at HS
        clear hB1_ hrest_ hbx_
        exact by (
        refine ⟨_, rfl, ?_⟩
        refine v_ (fa_ Try.underlying48) ?_
        refine WL.storeS HS 0 (vs := [.int .i64 t369.1.f0, .slice A372 t369.1.f1.length c373, .slice A376 t369.1.f2.length c377, .int .i64 t369.1.f3, .int .i64 t369.1.f4]) rfl rfl rfl rfl rfl rfl (one_cons rfl (one_cons rfl (one_cons rfl (one_cons rfl (one_cons rfl one_nil))))) (by kernel_rfl) (Nat.le_of_ble_eq_true rfl) (cs' := #[.slice A230 t227.1.length c231, .int .i64 t343.1.f0, .slice A346 t343.1.f1.length c347, .slice A350 t343.1.f2.length c351, .int .i64 t343.1.f3, .int .i64 t343.1.f4, .int .i64 t356.1.f0, .slice A359 t356.1.f1.length c360, .slice A363 t356.1.f2.length c364, .int .i64 t356.1.f3, .int .i64 t356.1.f4, .int .i64 t369.1.f0, .slice A372 t369.1.f1.length c373, .slice A376 t369.1.f2.length c377, .int .i64 t369.1.f3, .int .i64 t369.1.f4, .int .i64 0, .slice none 0 0, .slice none 0 0, .int .i64 0, .int .i64 0, .slice A337 t334.1.length c338, .int .i64 0, .slice none 0 0, .slice none 0 0, .int .i64 0, .int .i64 0, .int .i64 0, .slice none 0 0, .slice none 0 0, .int .i64 0, .int .i64 0]) (by kernel_rfl) (fun w380 HS => ?_)
        dsimp only [List.set] at HS
        refine dn_ hK368 ?_
        clear hK368
        exact by (
        refine sr_ fun _ hK381 => ?_
        refine mv_ ?_
        refine v_ (fa_ Try.underlying39) ?_
        refine v_ (lb_ (HS.mu 3 rfl) Try.underlying3 rfl) ?_
        refine v_ (fa_ Try.underlying39) ?_
        refine v_ (lb_ (HS.mu 3 rfl) Try.underlying3 rfl) ?_
        exact by (
        obtain ⟨t382, ha383, H⟩ := bind_some H
        refine c_ Try.func131 (spec_l05Matrix.runs k213 b0 (⟨x0.f0, t369.2.f1, t369.2.f2⟩ : S140) A0_0 c0_0 (wrap64 (4 * (wrap64 (1 + t5.1)))) (wrap64 (4 * (wrap64 (1 + t5.1)))) _ t382.1 t382.2 _ _ HS.b (HS.nodupM 5 rfl) (HS.boundM 5 rfl) (HS.footOM 5 rfl 1 rfl) hc0_0 (HS.mu 5 rfl) ha383) ?_
        clear ha383
        rintro _ w384 ⟨A385, c386, A389, c390, rfl, le387, hf388, le391, hf392, hbx_, hrest_, hB1_⟩
        replace HS := HS.newM 5 rfl hB1_ hrest_ hbx_ (foot_cons hf388 (foot_cons hf392 foot_nil))
        dsimp only [List.set] at HS
        exact by (
        clear hB1_ hrest_ hbx_
        refine ⟨_, rfl, ?_⟩
        refine v_ (fa_ Try.underlying48) ?_
        refine WL.storeS HS 0 (vs := [.int .i64 t382.1.f0, .slice A385 t382.1.f1.length c386, .slice A389 t382.1.f2.length c390, .int .i64 t382.1.f3, .int .i64 t382.1.f4]) rfl rfl rfl rfl rfl rfl (one_cons rfl (one_cons rfl (one_cons rfl (one_cons rfl (one_cons rfl one_nil))))) (by kernel_rfl) (Nat.le_of_ble_eq_true rfl) (cs' := #[.slice A230 t227.1.length c231, .int .i64 t343.1.f0, .slice A346 t343.1.f1.length c347, .slice A350 t343.1.f2.length c351, .int .i64 t343.1.f3, .int .i64 t343.1.f4, .int .i64 t356.1.f0, .slice A359 t356.1.f1.length c360, .slice A363 t356.1.f2.length c364, .int .i64 t356.1.f3, .int .i64 t356.1.f4, .int .i64 t369.1.f0, .slice A372 t369.1.f1.length c373, .slice A376 t369.1.f2.length c377, .int .i64 t369.1.f3, .int .i64 t369.1.f4, .int .i64 t382.1.f0, .slice A385 t382.1.f1.length c386, .slice A389 t382.1.f2.length c390, .int .i64 t382.1.f3, .int .i64 t382.1.f4, .slice A337 t334.1.length c338, .int .i64 0, .slice none 0 0, .slice none 0 0, .int .i64 0, .int .i64 0, .int .i64 0, .slice none 0 0, .slice none 0 0, .int .i64 0, .int .i64 0]) (by kernel_rfl) (fun w393 HS => ?_)
        dsimp only [List.set] at HS
        refine dn_ hK381 ?_
        exact by (
        clear hK381
        refine sr_ fun _ hK394 => ?_
        refine mv_ ?_
        refine v_ (fa_ Try.underlying39) ?_
        refine v_ (lb_ (HS.mu 3 rfl) Try.underlying3 rfl) ?_
        refine mv_ ?_
        exact by (
        obtain ⟨t395, ha396, H⟩ := bind_some H
        refine c_ Try.func131 (spec_l05Matrix.runs k213 b0 (⟨x0.f0, t382.2.f1, t382.2.f2⟩ : S140) A0_0 c0_0 (wrap64 (4 * (wrap64 (1 + t5.1)))) (wrap64 (4 * (wrap64 (1 + t222.1)))) _ t395.1 t395.2 _ _ HS.b (HS.nodupM 5 rfl) (HS.boundM 5 rfl) (HS.footOM 5 rfl 1 rfl) hc0_0 (HS.mu 5 rfl) ha396) ?_
        clear ha396
        rintro _ w397 ⟨A398, c399, A402, c403, rfl, le400, hf401, le404, hf405, hbx_, hrest_, hB1_⟩
        replace HS := HS.newM 5 rfl hB1_ hrest_ hbx_ (foot_cons hf401 (foot_cons hf405 foot_nil))
        dsimp only [List.set] at HS
        exact by (
        clear hB1_ hrest_ hbx_
        refine ⟨_, rfl, ?_⟩
        refine v_ (fa_ Try.underlying48) ?_
        refine WL.storeS HS 0 (vs := [.int .i64 t395.1.f0, .slice A398 t395.1.f1.length c399, .slice A402 t395.1.f2.length c403, .int .i64 t395.1.f3, .int .i64 t395.1.f4]) rfl rfl rfl rfl rfl rfl (one_cons rfl (one_cons rfl (one_cons rfl (one_cons rfl (one_cons rfl one_nil))))) (by kernel_rfl) (Nat.le_of_ble_eq_true rfl) (cs' := #[.slice A230 t227.1.length c231, .int .i64 t343.1.f0, .slice A346 t343.1.f1.length c347, .slice A350 t343.1.f2.length c351, .int .i64 t343.1.f3, .int .i64 t343.1.f4, .int .i64 t356.1.f0, .slice A359 t356.1.f1.length c360, .slice A363 t356.1.f2.length c364, .int .i64 t356.1.f3, .int .i64 t356.1.f4, .int .i64 t369.1.f0, .slice A372 t369.1.f1.length c373, .slice A376 t369.1.f2.length c377, .int .i64 t369.1.f3, .int .i64 t369.1.f4, .int .i64 t382.1.f0, .slice A385 t382.1.f1.length c386, .slice A389 t382.1.f2.length c390, .int .i64 t382.1.f3, .int .i64 t382.1.f4, .slice A337 t334.1.length c338, .int .i64 t395.1.f0, .slice A398 t395.1.f1.length c399, .slice A402 t395.1.f2.length c403, .int .i64 t395.1.f3, .int .i64 t395.1.f4, .int .i64 0, .slice none 0 0, .slice none 0 0, .int .i64 0, .int .i64 0]) (by kernel_rfl) (fun w406 HS => ?_)
        dsimp only [List.set] at HS
        refine dn_ hK394 ?_
        exact by (
        clear hK394
        refine sr_ fun _ hK407 => ?_
        refine mv_ ?_
        refine mv_ ?_
        refine v_ (fa_ Try.underlying39) ?_
        refine v_ (lb_ (HS.mu 3 rfl) Try.underlying3 rfl) ?_
        exact by (
        obtain ⟨t408, ha409, H⟩ := bind_some H
        refine c_ Try.func131 (spec_l05Matrix.runs k213 b0 (⟨x0.f0, t395.2.f1, t395.2.f2⟩ : S140) A0_0 c0_0 (wrap64 (4 * (wrap64 (1 + t222.1)))) (wrap64 (4 * (wrap64 (1 + t5.1)))) _ t408.1 t408.2 _ _ HS.b (HS.nodupM 5 rfl) (HS.boundM 5 rfl) (HS.footOM 5 rfl 1 rfl) hc0_0 (HS.mu 5 rfl) ha409) ?_
        clear ha409
        rintro _ w410 ⟨A411, c412, A415, c416, rfl, le413, hf414, le417, hf418, hbx_, hrest_, hB1_⟩
        replace HS := HS.newM 5 rfl hB1_ hrest_ hbx_ (foot_cons hf414 (foot_cons hf418 foot_nil))
        dsimp only [List.set] at HS
        exact by (
        clear hB1_ hrest_ hbx_
        refine ⟨_, rfl, ?_⟩
        refine v_ (fa_ Try.underlying48) ?_
        refine WL.storeS HS 0 (vs := [.int .i64 t408.1.f0, .slice A411 t408.1.f1.length c412, .slice A415 t408.1.f2.length c416, .int .i64 t408.1.f3, .int .i64 t408.1.f4]) rfl rfl rfl rfl rfl rfl (one_cons rfl (one_cons rfl (one_cons rfl (one_cons rfl (one_cons rfl one_nil))))) (by kernel_rfl) (Nat.le_of_ble_eq_true rfl) (cs' := #[.slice A230 t227.1.length c231, .int .i64 t343.1.f0, .slice A346 t343.1.f1.length c347, .slice A350 t343.1.f2.length c351, .int .i64 t343.1.f3, .int .i64 t343.1.f4, .int .i64 t356.1.f0, .slice A359 t356.1.f1.length c360, .slice A363 t356.1.f2.length c364, .int .i64 t356.1.f3, .int .i64 t356.1.f4, .int .i64 t369.1.f0, .slice A372 t369.1.f1.length c373, .slice A376 t369.1.f2.length c377, .int .i64 t369.1.f3, .int .i64 t369.1.f4, .int .i64 t382.1.f0, .slice A385 t382.1.f1.length c386, .slice A389 t382.1.f2.length c390, .int .i64 t382.1.f3, .int .i64 t382.1.f4, .slice A337 t334.1.length c338, .int .i64 t395.1.f0, .slice A398 t395.1.f1.length c399, .slice A402 t395.1.f2.length c403, .int .i64 t395.1.f3, .int .i64 t395.1.f4, .int .i64 t408.1.f0, .slice A411 t408.1.f1.length c412, .slice A415 t408.1.f2.length c416, .int .i64 t408.1.f3, .int .i64 t408.1.f4]) (by kernel_rfl) (fun w419 HS => ?_)
        dsimp only [List.set] at HS
        refine dn_ hK407 ?_
        exact by (
        clear hK407
        refine rg_ ?_
        refine v_ (fa_ Try.underlying39) ?_
        obtain ⟨A420, c421, rfl⟩ := row_slice (HS.mu 1 rfl)
        refine v_ (lb_ (HS.mu 3 rfl) Try.underlying35 rfl) ?_
        refine v_ (ls_ (HS.mu 0 rfl) Try.underlying48 part_all) ?_
        exact by (
        refine WL.val rfl rfl (by decide) (Run.lit1 (z := (.agg #[.slice none 0 0, .int .i64 0, .slice none 0 0, .slice none 0 0, .int .i64 0, .int .i64 0, .int .i64 0, .slice none 0 0, .slice none 0 0, .int .i64 0, .int .i64 0, .int .i64 0, .slice none 0 0, .slice none 0 0, .int .i64 0, .int .i64 0, .int .i64 0, .slice none 0 0, .slice none 0 0, .int .i64 0, .int .i64 0, .slice none 0 0, .int .i64 0, .slice none 0 0, .slice none 0 0, .int .i64 0, .int .i64 0, .int .i64 0, .slice none 0 0, .slice none 0 0, .int .i64 0, .int .i64 0])) (vs := [.slice A230 t227.1.length c231, .int .i64 t343.1.f0, .slice A346 t343.1.f1.length c347, .slice A350 t343.1.f2.length c351, .int .i64 t343.1.f3, .int .i64 t343.1.f4, .int .i64 t356.1.f0, .slice A359 t356.1.f1.length c360, .slice A363 t356.1.f2.length c364, .int .i64 t356.1.f3, .int .i64 t356.1.f4, .int .i64 t369.1.f0, .slice A372 t369.1.f1.length c373, .slice A376 t369.1.f2.length c377, .int .i64 t369.1.f3, .int .i64 t369.1.f4, .int .i64 t382.1.f0, .slice A385 t382.1.f1.length c386, .slice A389 t382.1.f2.length c390, .int .i64 t382.1.f3, .int .i64 t382.1.f4, .slice A337 t334.1.length c338, .int .i64 t395.1.f0, .slice A398 t395.1.f1.length c399, .slice A402 t395.1.f2.length c403, .int .i64 t395.1.f3, .int .i64 t395.1.f4, .int .i64 t408.1.f0, .slice A411 t408.1.f1.length c412, .slice A415 t408.1.f2.length c416, .int .i64 t408.1.f3, .int .i64 t408.1.f4]) rfl rfl rfl Try.underlying35 (by kernel_rfl) (Nat.le_of_ble_eq_true rfl) (Nat.le_of_ble_eq_true rfl)) ?_
        have HS1 := HS.below (below_alloc (Below.refl _ _) (.cells #[.slice A230 t227.1.length c231, .int .i64 t343.1.f0, .slice A346 t343.1.f1.length c347, .slice A350 t343.1.f2.length c351, .int .i64 t343.1.f3, .int .i64 t343.1.f4, .int .i64 t356.1.f0, .slice A359 t356.1.f1.length c360, .slice A363 t356.1.f2.length c364, .int .i64 t356.1.f3, .int .i64 t356.1.f4, .int .i64 t369.1.f0, .slice A372 t369.1.f1.length c373, .slice A376 t369.1.f2.length c377, .int .i64 t369.1.f3, .int .i64 t369.1.f4, .int .i64 t382.1.f0, .slice A385 t382.1.f1.length c386, .slice A389 t382.1.f2.length c390, .int .i64 t382.1.f3, .int .i64 t382.1.f4, .slice A337 t334.1.length c338, .int .i64 t395.1.f0, .slice A398 t395.1.f1.length c399, .slice A402 t395.1.f2.length c403, .int .i64 t395.1.f3, .int .i64 t395.1.f4, .int .i64 t408.1.f0, .slice A411 t408.1.f1.length c412, .slice A415 t408.1.f2.length c416, .int .i64 t408.1.f3, .int .i64 t408.1.f4] 48))
        obtain ⟨q422, H⟩ := if_some H
        refine WL.append HS1 1 rfl rfl rfl (by decide) rfl (.agg #[.slice none 0 0, .int .i64 0, .slice none 0 0, .slice none 0 0, .int .i64 0, .int .i64 0, .int .i64 0, .slice none 0 0, .slice none 0 0, .int .i64 0, .int .i64 0, .int .i64 0, .slice none 0 0, .slice none 0 0, .int .i64 0, .int .i64 0, .int .i64 0, .slice none 0 0, .slice none 0 0, .int .i64 0, .int .i64 0, .slice none 0 0, .int .i64 0, .slice none 0 0, .slice none 0 0, .int .i64 0, .int .i64 0, .int .i64 0, .slice none 0 0, .slice none 0 0, .int .i64 0, .int .i64 0]) 480 Try.underlying35 (by kernel_rfl) rfl (by decide) (by decide) rfl rfl [.slice A230 t227.1.length c231, .int .i64 t343.1.f0, .slice A346 t343.1.f1.length c347, .slice A350 t343.1.f2.length c351, .int .i64 t343.1.f3, .int .i64 t343.1.f4, .int .i64 t356.1.f0, .slice A359 t356.1.f1.length c360, .slice A363 t356.1.f2.length c364, .int .i64 t356.1.f3, .int .i64 t356.1.f4, .int .i64 t369.1.f0, .slice A372 t369.1.f1.length c373, .slice A376 t369.1.f2.length c377, .int .i64 t369.1.f3, .int .i64 t369.1.f4, .int .i64 t382.1.f0, .slice A385 t382.1.f1.length c386, .slice A389 t382.1.f2.length c390, .int .i64 t382.1.f3, .int .i64 t382.1.f4, .slice A337 t334.1.length c338, .int .i64 t395.1.f0, .slice A398 t395.1.f1.length c399, .slice A402 t395.1.f2.length c403, .int .i64 t395.1.f3, .int .i64 t395.1.f4, .int .i64 t408.1.f0, .slice A411 t408.1.f1.length c412, .slice A415 t408.1.f2.length c416, .int .i64 t408.1.f3, .int .i64 t408.1.f4] rfl (lit_news _ _ _) (one_cons rfl (one_cons rfl (one_cons rfl (one_cons rfl (one_cons rfl (one_cons rfl (one_cons rfl (one_cons rfl (one_cons rfl (one_cons rfl (one_cons rfl (one_cons rfl (one_cons rfl (one_cons rfl (one_cons rfl (one_cons rfl (one_cons rfl (one_cons rfl (one_cons rfl (one_cons rfl (one_cons rfl (one_cons rfl (one_cons rfl (one_cons rfl (one_cons rfl (one_cons rfl (one_cons rfl (one_cons rfl (one_cons rfl (one_cons rfl (one_cons rfl (one_cons rfl one_nil)))))))))))))))))))))))))))))))) (by omega) ((xs55 ++ [(⟨t227.1, (⟨t343.1.f0, t343.1.f1, t343.1.f2, t343.1.f3, t343.1.f4⟩ : S36), (⟨t356.1.f0, t356.1.f1, t356.1.f2, t356.1.f3, t356.1.f4⟩ : S36), (⟨t369.1.f0, t369.1.f1, t369.1.f2, t369.1.f3, t369.1.f4⟩ : S36), (⟨t382.1.f0, t382.1.f1, t382.1.f2, t382.1.f3, t382.1.f4⟩ : S36), t334.1, (⟨t395.1.f0, t395.1.f1, t395.1.f2, t395.1.f3, t395.1.f4⟩ : S36), (⟨t408.1.f0, t408.1.f1, t408.1.f2, t408.1.f3, t408.1.f4⟩ : S36)⟩ : S48)]).length) (by simp) (fun v423 w424 I425 hI426 HS => ?_)
        dsimp only [List.set] at HS
        replace HS := HS.deriveN (p := (fun W => Reps (k48.K W) k48.sz (xs55 ++ [(⟨t227.1, (⟨t343.1.f0, t343.1.f1, t343.1.f2, t343.1.f3, t343.1.f4⟩ : S36), (⟨t356.1.f0, t356.1.f1, t356.1.f2, t356.1.f3, t356.1.f4⟩ : S36), (⟨t369.1.f0, t369.1.f1, t369.1.f2, t369.1.f3, t369.1.f4⟩ : S36), (⟨t382.1.f0, t382.1.f1, t382.1.f2, t382.1.f3, t382.1.f4⟩ : S36), t334.1, (⟨t395.1.f0, t395.1.f1, t395.1.f2, t395.1.f3, t395.1.f4⟩ : S36), (⟨t408.1.f0, t408.1.f1, t408.1.f2, t408.1.f3, t408.1.f4⟩ : S36)⟩ : S48)]) I425)) (fun W_ hN_ => reps_snoc hI426 (AllF.get 14 rfl hN_) (k48_mk _ (⟨t227.1, (⟨t343.1.f0, t343.1.f1, t343.1.f2, t343.1.f3, t343.1.f4⟩ : S36), (⟨t356.1.f0, t356.1.f1, t356.1.f2, t356.1.f3, t356.1.f4⟩ : S36), (⟨t369.1.f0, t369.1.f1, t369.1.f2, t369.1.f3, t369.1.f4⟩ : S36), (⟨t382.1.f0, t382.1.f1, t382.1.f2, t382.1.f3, t382.1.f4⟩ : S36), t334.1, (⟨t395.1.f0, t395.1.f1, t395.1.f2, t395.1.f3, t395.1.f4⟩ : S36), (⟨t408.1.f0, t408.1.f1, t408.1.f2, t408.1.f3, t408.1.f4⟩ : S36)⟩ : S48) (le232) (AllF.get 13 rfl hN_) (le348) (AllF.get 10 rfl hN_) (le352) (AllF.get 11 rfl hN_) (le361) (AllF.get 8 rfl hN_) (le365) (AllF.get 9 rfl hN_) (le374) (AllF.get 6 rfl hN_) (le378) (AllF.get 7 rfl hN_) (le387) (AllF.get 4 rfl hN_) (le391) (AllF.get 5 rfl hN_) (le339) (AllF.get 12 rfl hN_) (le400) (AllF.get 2 rfl hN_) (le404) (AllF.get 3 rfl hN_) (le413) (AllF.get 0 rfl hN_) (le417) (AllF.get 1 rfl hN_)))
        exact by (
        clear HS1
        refine v_ (fa_ Try.underlying39) ?_
        obtain ⟨A428, c429, rfl⟩ := row_slice (HS.mu 1 rfl)
        refine WL.store HS 3 rfl rfl rfl rfl rfl rfl rfl (by kernel_rfl) (Nat.le_of_ble_eq_true rfl) (cs' := #[.int .i64 (wrap64 (4 * (wrap64 (1 + t5.1)))), .int .i64 (wrap64 (1 + t8.1)), .int .i64 (wrap64 (4 + t11.1)), .slice A21 t18.1.length c22, v42, (.slice A428 ((xs55 ++ [(⟨t227.1, (⟨t343.1.f0, t343.1.f1, t343.1.f2, t343.1.f3, t343.1.f4⟩ : S36), (⟨t356.1.f0, t356.1.f1, t356.1.f2, t356.1.f3, t356.1.f4⟩ : S36), (⟨t369.1.f0, t369.1.f1, t369.1.f2, t369.1.f3, t369.1.f4⟩ : S36), (⟨t382.1.f0, t382.1.f1, t382.1.f2, t382.1.f3, t382.1.f4⟩ : S36), t334.1, (⟨t395.1.f0, t395.1.f1, t395.1.f2, t395.1.f3, t395.1.f4⟩ : S36), (⟨t408.1.f0, t408.1.f1, t408.1.f2, t408.1.f3, t408.1.f4⟩ : S36)⟩ : S48)]).length) c429), .slice none 0 0, .int .i64 0, .slice none 0 0, .slice none 0 0, .int .i64 0, .int .i64 0, .slice none 0 0, .slice none 0 0]) (by kernel_rfl) (fun w427 HS => ?_)
        dsimp only [List.set] at HS
        refine dn_ hK220 ?_
        exact by (
        clear hK220
        refine rg_ ?_
        refine mv_ ?_
        refine b_ bin_add64 ?_
        refine as_ ?_
        refine WL.done ?_
        exact WQ.round k213 (fun _ _ h_ => h_) (Nat.lt_succ_self _) ⟨(wrap64 (i52 + 1)), t408.2.f1, t408.2.f2, (xs55 ++ [(⟨t227.1, (⟨t343.1.f0, t343.1.f1, t343.1.f2, t343.1.f3, t343.1.f4⟩ : S36), (⟨t356.1.f0, t356.1.f1, t356.1.f2, t356.1.f3, t356.1.f4⟩ : S36), (⟨t369.1.f0, t369.1.f1, t369.1.f2, t369.1.f3, t369.1.f4⟩ : S36), (⟨t382.1.f0, t382.1.f1, t382.1.f2, t382.1.f3, t382.1.f4⟩ : S36), t334.1, (⟨t395.1.f0, t395.1.f1, t395.1.f2, t395.1.f3, t395.1.f4⟩ : S36), (⟨t408.1.f0, t408.1.f1, t408.1.f2, t408.1.f3, t408.1.f4⟩ : S36)⟩ : S48)]), (.slice A428 ((xs55 ++ [(⟨t227.1, (⟨t343.1.f0, t343.1.f1, t343.1.f2, t343.1.f3, t343.1.f4⟩ : S36), (⟨t356.1.f0, t356.1.f1, t356.1.f2, t356.1.f3, t356.1.f4⟩ : S36), (⟨t369.1.f0, t369.1.f1, t369.1.f2, t369.1.f3, t369.1.f4⟩ : S36), (⟨t382.1.f0, t382.1.f1, t382.1.f2, t382.1.f3, t382.1.f4⟩ : S36), t334.1, (⟨t395.1.f0, t395.1.f1, t395.1.f2, t395.1.f3, t395.1.f4⟩ : S36), (⟨t408.1.f0, t408.1.f1, t408.1.f2, t408.1.f3, t408.1.f4⟩ : S36)⟩ : S48)]).length) c429), I425, rfl, ⟨_, H, Ho51⟩, (St.pick (St.forget HS 0 rfl) (fun W_ h_ => ⟨AllF.get 0 rfl h_, AllF.get 1 rfl h_, trivial⟩) (fun W_ h_ => ⟨AllF.get 0 rfl h_, AllF.get 16 rfl h_, AllF.get 17 rfl h_, trivial⟩))⟩ ⟨rfl, rfl, rfl, rfl, rfl, rfl, trivial⟩ )))))))))))))))))))))))))))
    · have HT_ := True.intro
      exact by (
      refine WDo.alloc (v := .agg #[.slice none 0 0, .int .i64 0, .slice none 0 0, .slice none 0 0, .int .i64 0, .int .i64 0, .int .i64 0, .slice none 0 0, .slice none 0 0, .int .i64 0, .int .i64 0, .int .i64 0, .slice none 0 0, .slice none 0 0, .int .i64 0, .int .i64 0, .int .i64 0, .slice none 0 0, .slice none 0 0, .int .i64 0, .int .i64 0, .slice none 0 0, .int .i64 0, .slice none 0 0, .slice none 0 0, .int .i64 0, .int .i64 0, .int .i64 0, .slice none 0 0, .slice none 0 0, .int .i64 0, .int .i64 0]) (cs := #[.slice none 0 0, .int .i64 0, .slice none 0 0, .slice none 0 0, .int .i64 0, .int .i64 0, .int .i64 0, .slice none 0 0, .slice none 0 0, .int .i64 0, .int .i64 0, .int .i64 0, .slice none 0 0, .slice none 0 0, .int .i64 0, .int .i64 0, .int .i64 0, .slice none 0 0, .slice none 0 0, .int .i64 0, .int .i64 0, .slice none 0 0, .int .i64 0, .slice none 0 0, .slice none 0 0, .int .i64 0, .int .i64 0, .int .i64 0, .slice none 0 0, .slice none 0 0, .int .i64 0, .int .i64 0]) 9 (w_none rfl) HS rfl (by kernel_rfl) rfl (fun b430 w431 hb430 HS => ?_)
      refine ⟨⟨HS.nowO, HS.nowN, ⟨(HS.mu 1 rfl), (HS.mu 2 rfl), (HS.mu 3 rfl), (HS.mu 4 rfl), trivial⟩⟩, ?_⟩
      obtain ⟨t432, ha433, H⟩ := bind_some H
      refine dc_ 3 (w_none rfl) Try.func130 (spec_l10Gain.runs k213 b0 (⟨x0.f0, t222.2.f1, t222.2.f2⟩ : S140) A0_0 c0_0 (wrap64 (4 * (wrap64 (1 + t5.1)))) _ t432.1 t432.2 _ _ HS.b (HS.nodupM 5 rfl) (HS.boundM 5 rfl) (HS.footOM 5 rfl 1 rfl) hc0_0 (HS.mu 5 rfl) ha433) ?_
      clear ha433
      rintro _ w434 ⟨A435, c436, rfl, le437, hf438, hbx_, hrest_, hB1_⟩
      exact by (
      replace HS := HS.newM 5 rfl hB1_ hrest_ hbx_ (foot_cons hf438 foot_nil)
      dsimp only [List.set] at HS
      clear hB1_ hrest_ hbx_
      refine ⟨⟨HS.nowO, HS.nowN.2, ⟨(HS.mu 1 rfl), (HS.mu 2 rfl), (HS.mu 3 rfl), (HS.mu 4 rfl), trivial⟩⟩, _, rfl, ?_⟩
      obtain ⟨t439, ha440, H⟩ := bind_some H
      refine dc_ 7 (w_none rfl) Try.func130 (spec_l10Gain.runs k213 b0 (⟨x0.f0, t432.2.f1, t432.2.f2⟩ : S140) A0_0 c0_0 (wrap64 (4 * (wrap64 (1 + t5.1)))) _ t439.1 t439.2 _ _ HS.b (HS.nodupM 5 rfl) (HS.boundM 5 rfl) (HS.footOM 5 rfl 1 rfl) hc0_0 (HS.mu 5 rfl) ha440) ?_
      exact by (
      clear ha440
      rintro _ w441 ⟨A442, c443, rfl, le444, hf445, hbx_, hrest_, hB1_⟩
      replace HS := HS.newM 5 rfl hB1_ hrest_ hbx_ (foot_cons hf445 foot_nil)
      dsimp only [List.set] at HS
      clear hB1_ hrest_ hbx_
      refine ⟨⟨HS.nowO, HS.nowN.2.2, ⟨(HS.mu 1 rfl), (HS.mu 2 rfl), (HS.mu 3 rfl), (HS.mu 4 rfl), trivial⟩⟩, _, rfl, ?_⟩
      exact by (
      refine db_ 8 [(0, .slice A435 t432.1.length c436), (5, .slice A442 t439.1.length c443)] (cells := #[.slice A435 t432.1.length c436, .int .i64 0, .slice none 0 0, .slice none 0 0, .int .i64 0, .int .i64 0, .int .i64 0, .slice none 0 0, .slice none 0 0, .int .i64 0, .int .i64 0, .int .i64 0, .slice none 0 0, .slice none 0 0, .int .i64 0, .int .i64 0, .int .i64 0, .slice none 0 0, .slice none 0 0, .int .i64 0, .int .i64 0, .slice A442 t439.1.length c443, .int .i64 0, .slice none 0 0, .slice none 0 0, .int .i64 0, .int .i64 0, .int .i64 0, .slice none 0 0, .slice none 0 0, .int .i64 0, .int .i64 0]) rfl rfl ⟨⟨rfl, rfl⟩, ⟨⟨rfl, rfl⟩, trivial⟩⟩ (by kernel_rfl) ?_
      refine WD.storeSL 10 HS 0 (vs := [.slice A435 t432.1.length c436, .int .i64 0, .slice none 0 0, .slice none 0 0, .int .i64 0, .int .i64 0, .int .i64 0, .slice none 0 0, .slice none 0 0, .int .i64 0, .int .i64 0, .int .i64 0, .slice none 0 0, .slice none 0 0, .int .i64 0, .int .i64 0, .int .i64 0, .slice none 0 0, .slice none 0 0, .int .i64 0, .int .i64 0, .slice A442 t439.1.length c443, .int .i64 0, .slice none 0 0, .slice none 0 0, .int .i64 0, .int .i64 0, .int .i64 0, .slice none 0 0, .slice none 0 0, .int .i64 0, .int .i64 0]) rfl rfl rfl rfl (one_cons rfl (one_cons rfl (one_cons rfl (one_cons rfl (one_cons rfl (one_cons rfl (one_cons rfl (one_cons rfl (one_cons rfl (one_cons rfl (one_cons rfl (one_cons rfl (one_cons rfl (one_cons rfl (one_cons rfl (one_cons rfl (one_cons rfl (one_cons rfl (one_cons rfl (one_cons rfl (one_cons rfl (one_cons rfl (one_cons rfl (one_cons rfl (one_cons rfl (one_cons rfl (one_cons rfl (one_cons rfl (one_cons rfl (one_cons rfl (one_cons rfl (one_cons rfl one_nil)))))))))))))))))))))))))))))))) (by kernel_rfl) (Nat.le_of_ble_eq_true rfl) (cs' := #[.slice A435 t432.1.length c436, .int .i64 0, .slice none 0 0, .slice none 0 0, .int .i64 0, .int .i64 0, .int .i64 0, .slice none 0 0, .slice none 0 0, .int .i64 0, .int .i64 0, .int .i64 0, .slice none 0 0, .slice none 0 0, .int .i64 0, .int .i64 0, .int .i64 0, .slice none 0 0, .slice none 0 0, .int .i64 0, .int .i64 0, .slice A442 t439.1.length c443, .int .i64 0, .slice none 0 0, .slice none 0 0, .int .i64 0, .int .i64 0, .int .i64 0, .slice none 0 0, .slice none 0 0, .int .i64 0, .int .i64 0]) (by kernel_rfl) (fun w446 HS => ?_)
      dsimp only [List.set] at HS
      refine dd_ ?_
      refine via_ hK225 ?_
      clear hK225
      exact by (
      refine sr_ fun _ hK447 => ?_
      refine mv_ ?_
      refine v_ (fa_ Try.underlying39) ?_
      refine v_ (lb_ (HS.mu 3 rfl) Try.underlying3 rfl) ?_
      refine v_ (fa_ Try.underlying39) ?_
      refine v_ (lb_ (HS.mu 3 rfl) Try.underlying3 rfl) ?_
      exact by (
      obtain ⟨t448, ha449, H⟩ := bind_some H
      refine c_ Try.func131 (spec_l05Matrix.runs k213 b0 (⟨x0.f0, t439.2.f1, t439.2.f2⟩ : S140) A0_0 c0_0 (wrap64 (4 * (wrap64 (1 + t5.1)))) (wrap64 (4 * (wrap64 (1 + t5.1)))) _ t448.1 t448.2 _ _ HS.b (HS.nodupM 5 rfl) (HS.boundM 5 rfl) (HS.footOM 5 rfl 1 rfl) hc0_0 (HS.mu 5 rfl) ha449) ?_
      clear ha449
      rintro _ w450 ⟨A451, c452, A455, c456, rfl, le453, hf454, le457, hf458, hbx_, hrest_, hB1_⟩
      replace HS := HS.newM 5 rfl hB1_ hrest_ hbx_ (foot_cons hf454 (foot_cons hf458 foot_nil))
      dsimp only [List.set] at HS
      exact by (
      clear hB1_ hrest_ hbx_
      refine ⟨_, rfl, ?_⟩
      refine v_ (fa_ Try.underlying48) ?_
      refine WL.storeS HS 0 (vs := [.int .i64 t448.1.f0, .slice A451 t448.1.f1.length c452, .slice A455 t448.1.f2.length c456, .int .i64 t448.1.f3, .int .i64 t448.1.f4]) rfl rfl rfl rfl rfl rfl (one_cons rfl (one_cons rfl (one_cons rfl (one_cons rfl (one_cons rfl one_nil))))) (by kernel_rfl) (Nat.le_of_ble_eq_true rfl) (cs' := #[.slice A435 t432.1.length c436, .int .i64 t448.1.f0, .slice A451 t448.1.f1.length c452, .slice A455 t448.1.f2.length c456, .int .i64 t448.1.f3, .int .i64 t448.1.f4, .int .i64 0, .slice none 0 0, .slice none 0 0, .int .i64 0, .int .i64 0, .int .i64 0, .slice none 0 0, .slice none 0 0, .int .i64 0, .int .i64 0, .int .i64 0, .slice none 0 0, .slice none 0 0, .int .i64 0, .int .i64 0, .slice A442 t439.1.length c443, .int .i64 0, .slice none 0 0, .slice none 0 0, .int .i64 0, .int .i64 0, .int .i64 0, .slice none 0 0, .slice none 0 0, .int .i64 0, .int .i64 0]) (by kernel_rfl) (fun w459 HS => ?_)
      dsimp only [List.set] at HS
      refine dn_ hK447 ?_
      exact by (
      clear hK447
      refine sr_ fun _ hK460 => ?_
      refine mv_ ?_
      refine v_ (fa_ Try.underlying39) ?_
      refine v_ (lb_ (HS.mu 3 rfl) Try.underlying3 rfl) ?_
      refine v_ (fa_ Try.underlying39) ?_
      exact by (
      refine v_ (lb_ (HS.mu 3 rfl) Try.underlying3 rfl) ?_
      obtain ⟨t461, ha462, H⟩ := bind_some H
      refine c_ Try.func131 (spec_l05Matrix.runs k213 b0 (⟨x0.f0, t448.2.f1, t448.2.f2⟩ : S140) A0_0 c0_0 (wrap64 (4 * (wrap64 (1 + t5.1)))) (wrap64 (4 * (wrap64 (1 + t5.1)))) _ t461.1 t461.2 _ _ HS.b (HS.nodupM 5 rfl) (HS.boundM 5 rfl) (HS.footOM 5 rfl 1 rfl) hc0_0 (HS.mu 5 rfl) ha462) ?_
      clear ha462
      rintro _ w463 ⟨A464, c465, A468, c469, rfl, le466, hf467, le470, hf471, hbx_, hrest_, hB1_⟩
      replace HS := HS.newM 5 rfl hB1_ hrest_ hbx_ (foot_cons hf467 (foot_cons hf471 foot_nil))
      exact by (
      dsimp only [List.set] at HS
      clear hB1_ hrest_ hbx_
      refine ⟨_, rfl, ?_⟩
      refine v_ (fa_ Try.underlying48) ?_
      refine WL.storeS HS 0 (vs := [.int .i64 t461.1.f0, .slice A464 t461.1.f1.length c465, .slice A468 t461.1.f2.length c469, .int .i64 t461.1.f3, .int .i64 t461.1.f4]) rfl rfl rfl rfl rfl rfl (one_cons rfl (one_cons rfl (one_cons rfl (one_cons rfl (one_cons rfl one_nil))))) (by kernel_rfl) (Nat.le_of_ble_eq_true rfl) (cs' := #[.slice A435 t432.1.length c436, .int .i64 t448.1.f0, .slice A451 t448.1.f1.length c452, .slice A455 t448.1.f2.length c456, .int .i64 t448.1.f3, .int .i64 t448.1.f4, .int .i64 t461.1.f0, .slice A464 t461.1.f1.length c465, .slice A468 t461.1.f2.length c469, .int .i64 t461.1.f3, .int .i64 t461.1.f4, .int .i64 0, .slice none 0 0, .slice none 0 0, .int .i64 0, .int .i64 0, .int .i64 0, .slice none 0 0, .slice none 0 0, .int .i64 0, .int .i64 0, .slice A442 t439.1.length c443, .int .i64 0, .slice none 0 0, .slice none 0 0, .int .i64 0, .int .i64 0, .int .i64 0, .slice none 0 0, .slice none 0 0, .int .i64 0, .int .i64 0]) (by kernel_rfl) (fun w472 HS => ?_)
      dsimp only [List.set] at HS
      exact by (
      refine dn_ hK460 ?_
      clear hK460
      refine sr_ fun _ hK473 => ?_
      refine mv_ ?_
      refine v_ (fa_ Try.underlying39) ?_
      refine v_ (lb_ (HS.mu 3 rfl) Try.underlying3 rfl) ?_
      exact by (
      refine v_ (fa_ Try.underlying39) ?_
      refine v_ (lb_ (HS.mu 3 rfl) Try.underlying3 rfl) ?_
      obtain ⟨t474, ha475, H⟩ := bind_some H
      refine c_ Try.func131 (spec_l05Matrix.runs k213 b0 (⟨x0.f0, t461.2.f1, t461.2.f2⟩ : S140) A0_0 c0_0 (wrap64 (4 * (wrap64 (1 + t5.1)))) (wrap64 (4 * (wrap64 (1 + t5.1)))) _ t474.1 t474.2 _ _ HS.b (HS.nodupM 5 rfl) (HS.boundM 5 rfl) (HS.footOM 5 rfl 1 rfl) hc0_0 (HS.mu 5 rfl) ha475) ?_
      clear ha475
      rintro _ w476 ⟨A477, c478, A481, c482, rfl, le479, hf480, le483, hf484, hbx_, hrest_, hB1_⟩
      exact by (
      replace HS := HS.newM 5 rfl hB1_ hrest_ hbx_ (foot_cons hf480 (foot_cons hf484 foot_nil))
      dsimp only [List.set] at HS
      clear hB1_ hrest_ hbx_
      refine ⟨_, rfl, ?_⟩
      refine v_ (fa_ Try.underlying48) ?_
      refine WL.storeS HS 0 (vs := [.int .i64 t474.1.f0, .slice A477 t474.1.f1.length c478, .slice A481 t474.1.f2.length c482, .int .i64 t474.1.f3, .int .i64 t474.1.f4]) rfl rfl rfl rfl rfl rfl (one_cons rfl (one_cons rfl (one_cons rfl (one_cons rfl (one_cons rfl one_nil))))) (by kernel_rfl) (Nat.le_of_ble_eq_true rfl) (cs' := #[.slice A435 t432.1.length c436, .int .i64 t448.1.f0, .slice A451 t448.1.f1.length c452, .slice A455 t448.1.f2.length c456, .int .i64 t448.1.f3, .int .i64 t448.1.f4, .int .i64 t461.1.f0, .slice A464 t461.1.f1.length c465, .slice A468 t461.1.f2.length c469, .int .i64 t461.1.f3, .int .i64 t461.1.f4, .int .i64 t474.1.f0, .slice A477 t474.1.f1.length c478, .slice A481 t474.1.f2.length c482, .int .i64 t474.1.f3, .int .i64 t474.1.f4, .int .i64 0, .slice none 0 0, .slice none 0 0, .int .i64 0, .int .i64 0, .slice A442 t439.1.length c443, .int .i64 0, .slice none 0 0, .slice none 0 0, .int .i64 0, .int .i64 0, .int .i64 0, .slice none 0 0, .slice none 0 0, .int .i64 0, .int .i64 0]) (by kernel_rfl) (fun w485 HS => ?_)
      exact by (
      dsimp only [List.set] at HS
      refine dn_ hK473 ?_
      clear hK473
      refine sr_ fun _ hK486 => ?_
      refine mv_ ?_
      refine v_ (fa_ Try.underlying39) ?_
      exact by (
      refine v_ (lb_ (HS.mu 3 rfl) Try.underlying3 rfl) ?_
      refine v_ (fa_ Try.underlying39) ?_
      refine v_ (lb_ (HS.mu 3 rfl) Try.underlying3 rfl) ?_
      obtain ⟨t487, ha488, H⟩ := bind_some H
      refine c_ Try.func131 (spec_l05Matrix.runs k213 b0 (⟨x0.f0, t474.2.f1, t474.2.f2⟩ : S140) A0_0 c0_0 (wrap64 (4 * (wrap64 (1 + t5.1)))) (wrap64 (4 * (wrap64 (1 + t5.1)))) _ t487.1 t487.2 _ _ HS.b (HS.nodupM 5 rfl) (HS.boundM 5 rfl) (HS.footOM 5 rfl 1 rfl) hc0_0 (HS.mu 5 rfl) ha488) ?_
      clear ha488
      exact by (
      rintro _ w489 ⟨A490, c491, A494, c495, rfl, le492, hf493, le496, hf497, hbx_, hrest_, hB1_⟩
      replace HS := HS.newM 5 rfl hB1_ hrest_ hbx_ (foot_cons hf493 (foot_cons hf497 foot_nil))
      dsimp only [List.set] at HS
      clear hB1_ hrest_ hbx_
      refine ⟨_, rfl, ?_⟩
      refine v_ (fa_ Try.underlying48) ?_
      exact by (
      refine WL.storeS HS 0 (vs := [.int .i64 t487.1.f0, .slice A490 t487.1.f1.length c491, .slice A494 t487.1.f2.length c495, .int .i64 t487.1.f3, .int .i64 t487.1.f4]) rfl rfl rfl rfl rfl rfl (one_cons rfl (one_cons rfl (one_cons rfl (one_cons rfl (one_cons rfl one_nil))))) (by kernel_rfl) (Nat.le_of_ble_eq_true rfl) (cs' := #[.slice A435 t432.1.length c436, .int .i64 t448.1.f0, .slice A451 t448.1.f1.length c452, .slice A455 t448.1.f2.length c456, .int .i64 t448.1.f3, .int .i64 t448.1.f4, .int .i64 t461.1.f0, .slice A464 t461.1.f1.length c465, .slice A468 t461.1.f2.length c469, .int .i64 t461.1.f3, .int .i64 t461.1.f4, .int .i64 t474.1.f0, .slice A477 t474.1.f1.length c478, .slice A481 t474.1.f2.length c482, .int .i64 t474.1.f3, .int .i64 t474.1.f4, .int .i64 t487.1.f0, .slice A490 t487.1.f1.length c491, .slice A494 t487.1.f2.length c495, .int .i64 t487.1.f3, .int .i64 t487.1.f4, .slice A442 t439.1.length c443, .int .i64 0, .slice none 0 0, .slice none 0 0, .int .i64 0, .int .i64 0, .int .i64 0, .slice none 0 0, .slice none 0 0, .int .i64 0, .int .i64 0]) (by kernel_rfl) (fun w498 HS => ?_)
      dsimp only [List.set] at HS
      refine dn_ hK486 ?_
      clear hK486
      refine sr_ fun _ hK499 => ?_
      refine mv_ ?_
      exact by (
      refine v_ (fa_ Try.underlying39) ?_
      refine v_ (lb_ (HS.mu 3 rfl) Try.underlying3 rfl) ?_
      refine mv_ ?_
      obtain ⟨t500, ha501, H⟩ := bind_some H
      refine c_ Try.func131 (spec_l05Matrix.runs k213 b0 (⟨x0.f0, t487.2.f1, t487.2.f2⟩ : S140) A0_0 c0_0 (wrap64 (4 * (wrap64 (1 + t5.1)))) (wrap64 (4 * (wrap64 (1 + t222.1)))) _ t500.1 t500.2 _ _ HS.b (HS.nodupM 5 rfl) (HS.boundM 5 rfl) (HS.footOM 5 rfl 1 rfl) hc0_0 (HS.mu 5 rfl) ha501) ?_
      clear ha501
      exact by (
      rintro _ w502 ⟨A503, c504, A507, c508, rfl, le505, hf506, le509, hf510, hbx_, hrest_, hB1_⟩
      replace HS := HS.newM 5 rfl hB1_ hrest_ hbx_ (foot_cons hf506 (foot_cons hf510 foot_nil))
      dsimp only [List.set] at HS
      clear hB1_ hrest_ hbx_
      refine ⟨_, rfl, ?_⟩
      refine v_ (fa_ Try.underlying48) ?_
      exact by (
      refine WL.storeS HS 0 (vs := [.int .i64 t500.1.f0, .slice A503 t500.1.f1.length c504, .slice A507 t500.1.f2.length c508, .int .i64 t500.1.f3, .int .i64 t500.1.f4]) rfl rfl rfl rfl rfl rfl (one_cons rfl (one_cons rfl (one_cons rfl (one_cons rfl (one_cons rfl one_nil))))) (by kernel_rfl) (Nat.le_of_ble_eq_true rfl) (cs' := #[.slice A435 t432.1.length c436, .int .i64 t448.1.f0, .slice A451 t448.1.f1.length c452, .slice A455 t448.1.f2.length c456, .int .i64 t448.1.f3, .int .i64 t448.1.f4, .int .i64 t461.1.f0, .slice A464 t461.1.f1.length c465, .slice A468 t461.1.f2.length c469, .int .i64 t461.1.f3, .int .i64 t461.1.f4, .int .i64 t474.1.f0, .slice A477 t474.1.f1.length c478, .slice A481 t474.1.f2.length c482, .int .i64 t474.1.f3, .int .i64 t474.1.f4, .int .i64 t487.1.f0, .slice A490 t487.1.f1.length c491, .slice A494 t487.1.f2.length c495, .int .i64 t487.1.f3, .int .i64 t487.1.f4, .slice A442 t439.1.length c443, .int .i64 t500.1.f0, .slice A503 t500.1.f1.length c504, .slice A507 t500.1.f2.length c508, .int .i64 t500.1.f3, .int .i64 t500.1.f4, .int .i64 0, .slice none 0 0, .slice none 0 0, .int .i64 0, .int .i64 0]) (by kernel_rfl) (fun w511 HS => ?_)
      dsimp only [List.set] at HS
      refine dn_ hK499 ?_
      clear hK499
      refine sr_ fun _ hK512 => ?_
      refine mv_ ?_
      exact by (
      refine mv_ ?_
      refine v_ (fa_ Try.underlying39) ?_
      refine v_ (lb_ (HS.mu 3 rfl) Try.underlying3 rfl) ?_
      obtain ⟨t513, ha514, H⟩ := bind_some H
      refine c_ Try.func131 (spec_l05Matrix.runs k213 b0 (⟨x0.f0, t500.2.f1, t500.2.f2⟩ : S140) A0_0 c0_0 (wrap64 (4 * (wrap64 (1 + t222.1)))) (wrap64 (4 * (wrap64 (1 + t5.1)))) _ t513.1 t513.2 _ _ HS.b (HS.nodupM 5 rfl) (HS.boundM 5 rfl) (HS.footOM 5 rfl 1 rfl) hc0_0 (HS.mu 5 rfl) ha514) ?_
      clear ha514
      exact by (
      rintro _ w515 ⟨A516, c517, A520, c521, rfl, le518, hf519, le522, hf523, hbx_, hrest_, hB1_⟩
      replace HS := HS.newM 5 rfl hB1_ hrest_ hbx_ (foot_cons hf519 (foot_cons hf523 foot_nil))
      dsimp only [List.set] at HS
      clear hB1_ hrest_ hbx_
      refine ⟨_, rfl, ?_⟩
      refine v_ (fa_ Try.underlying48) ?_
      exact by (
      refine WL.storeS HS 0 (vs := [.int .i64 t513.1.f0, .slice A516 t513.1.f1.length c517, .slice A520 t513.1.f2.length c521, .int .i64 t513.1.f3, .int .i64 t513.1.f4]) rfl rfl rfl rfl rfl rfl (one_cons rfl (one_cons rfl (one_cons rfl (one_cons rfl (one_cons rfl one_nil))))) (by kernel_rfl) (Nat.le_of_ble_eq_true rfl) (cs' := #[.slice A435 t432.1.length c436, .int .i64 t448.1.f0, .slice A451 t448.1.f1.length c452, .slice A455 t448.1.f2.length c456, .int .i64 t448.1.f3, .int .i64 t448.1.f4, .int .i64 t461.1.f0, .slice A464 t461.1.f1.length c465, .slice A468 t461.1.f2.length c469, .int .i64 t461.1.f3, .int .i64 t461.1.f4, .int .i64 t474.1.f0, .slice A477 t474.1.f1.length c478, .slice A481 t474.1.f2.length c482, .int .i64 t474.1.f3, .int .i64 t474.1.f4, .int .i64 t487.1.f0, .slice A490 t487.1.f1.length c491, .slice A494 t487.1.f2.length c495, .int .i64 t487.1.f3, .int .i64 t487.1.f4, .slice A442 t439.1.length c443, .int .i64 t500.1.f0, .slice A503 t500.1.f1.length c504, .slice A507 t500.1.f2.length c508, .int .i64 t500.1.f3, .int .i64 t500.1.f4, .int .i64 t513.1.f0, .slice A516 t513.1.f1.length c517, .slice A520 t513.1.f2.length c521, .int .i64 t513.1.f3, .int .i64 t513.1.f4]) (by kernel_rfl) (fun w524 HS => ?_)
      dsimp only [List.set] at HS
      refine dn_ hK512 ?_
      clear hK512
      refine rg_ ?_
      refine v_ (fa_ Try.underlying39) ?_
      exact by (
      obtain ⟨A525, c526, rfl⟩ := row_slice (HS.mu 1 rfl)
      refine v_ (lb_ (HS.mu 3 rfl) Try.underlying35 rfl) ?_
      refine v_ (ls_ (HS.mu 0 rfl) Try.underlying48 part_all) ?_
      refine WL.val rfl rfl (by decide) (Run.lit1 (z := (.agg #[.slice none 0 0, .int .i64 0, .slice none 0 0, .slice none 0 0, .int .i64 0, .int .i64 0, .int .i64 0, .slice none 0 0, .slice none 0 0, .int .i64 0, .int .i64 0, .int .i64 0, .slice none 0 0, .slice none 0 0, .int .i64 0, .int .i64 0, .int .i64 0, .slice none 0 0, .slice none 0 0, .int .i64 0, .int .i64 0, .slice none 0 0, .int .i64 0, .slice none 0 0, .slice none 0 0, .int .i64 0, .int .i64 0, .int .i64 0, .slice none 0 0, .slice none 0 0, .int .i64 0, .int .i64 0])) (vs := [.slice A435 t432.1.length c436, .int .i64 t448.1.f0, .slice A451 t448.1.f1.length c452, .slice A455 t448.1.f2.length c456, .int .i64 t448.1.f3, .int .i64 t448.1.f4, .int .i64 t461.1.f0, .slice A464 t461.1.f1.length c465, .slice A468 t461.1.f2.length c469, .int .i64 t461.1.f3, .int .i64 t461.1.f4, .int .i64 t474.1.f0, .slice A477 t474.1.f1.length c478, .slice A481 t474.1.f2.length c482, .int .i64 t474.1.f3, .int .i64 t474.1.f4, .int .i64 t487.1.f0, .slice A490 t487.1.f1.length c491, .slice A494 t487.1.f2.length c495, .int .i64 t487.1.f3, .int .i64 t487.1.f4, .slice A442 t439.1.length c443, .int .i64 t500.1.f0, .slice A503 t500.1.f1.length c504, .slice A507 t500.1.f2.length c508, .int .i64 t500.1.f3, .int .i64 t500.1.f4, .int .i64 t513.1.f0, .slice A516 t513.1.f1.length c517, .slice A520 t513.1.f2.length c521, .int .i64 t513.1.f3, .int .i64 t513.1.f4]) rfl rfl rfl Try.underlying35 (by kernel_rfl) (Nat.le_of_ble_eq_true rfl) (Nat.le_of_ble_eq_true rfl)) ?_
      have HS1 := HS.below (below_alloc (Below.refl _ _) (.cells #[.slice A435 t432.1.length c436, .int .i64 t448.1.f0, .slice A451 t448.1.f1.length c452, .slice A455 t448.1.f2.length c456, .int .i64 t448.1.f3, .int .i64 t448.1.f4, .int .i64 t461.1.f0, .slice A464 t461.1.f1.length c465, .slice A468 t461.1.f2.length c469, .int .i64 t461.1.f3, .int .i64 t461.1.f4, .int .i64 t474.1.f0, .slice A477 t474.1.f1.length c478, .slice A481 t474.1.f2.length c482, .int .i64 t474.1.f3, .int .i64 t474.1.f4, .int .i64 t487.1.f0, .slice A490 t487.1.f1.length c491, .slice A494 t487.1.f2.length c495, .int .i64 t487.1.f3, .int .i64 t487.1.f4, .slice A442 t439.1.length c443, .int .i64 t500.1.f0, .slice A503 t500.1.f1.length c504, .slice A507 t500.1.f2.length c508, .int .i64 t500.1.f3, .int .i64 t500.1.f4, .int .i64 t513.1.f0, .slice A516 t513.1.f1.length c517, .slice A520 t513.1.f2.length c521, .int .i64 t513.1.f3, .int .i64 t513.1.f4] 48))
      obtain ⟨q527, H⟩ := if_some H
      exact by (
      refine WL.append HS1 1 rfl rfl rfl (by decide) rfl (.agg #[.slice none 0 0, .int .i64 0, .slice none 0 0, .slice none 0 0, .int .i64 0, .int .i64 0, .int .i64 0, .slice none 0 0, .slice none 0 0, .int .i64 0, .int .i64 0, .int .i64 0, .slice none 0 0, .slice none 0 0, .int .i64 0, .int .i64 0, .int .i64 0, .slice none 0 0, .slice none 0 0, .int .i64 0, .int .i64 0, .slice none 0 0, .int .i64 0, .slice none 0 0, .slice none 0 0, .int .i64 0, .int .i64 0, .int .i64 0, .slice none 0 0, .slice none 0 0, .int .i64 0, .int .i64 0]) 480 Try.underlying35 (by kernel_rfl) rfl (by decide) (by decide) rfl rfl [.slice A435 t432.1.length c436, .int .i64 t448.1.f0, .slice A451 t448.1.f1.length c452, .slice A455 t448.1.f2.length c456, .int .i64 t448.1.f3, .int .i64 t448.1.f4, .int .i64 t461.1.f0, .slice A464 t461.1.f1.length c465, .slice A468 t461.1.f2.length c469, .int .i64 t461.1.f3, .int .i64 t461.1.f4, .int .i64 t474.1.f0, .slice A477 t474.1.f1.length c478, .slice A481 t474.1.f2.length c482, .int .i64 t474.1.f3, .int .i64 t474.1.f4, .int .i64 t487.1.f0, .slice A490 t487.1.f1.length c491, .slice A494 t487.1.f2.length c495, .int .i64 t487.1.f3, .int .i64 t487.1.f4, .slice A442 t439.1.length c443, .int .i64 t500.1.f0, .slice A503 t500.1.f1.length c504, .slice A507 t500.1.f2.length c508, .int .i64 t500.1.f3, .int .i64 t500.1.f4, .int .i64 t513.1.f0, .slice A516 t513.1.f1.length c517, .slice A520 t513.1.f2.length c521, .int .i64 t513.1.f3, .int .i64 t513.1.f4] rfl (lit_news _ _ _) (one_cons rfl (one_cons rfl (one_cons rfl (one_cons rfl (one_cons rfl (one_cons rfl (one_cons rfl (one_cons rfl (one_cons rfl (one_cons rfl (one_cons rfl (one_cons rfl (one_cons rfl (one_cons rfl (one_cons rfl (one_cons rfl (one_cons rfl (one_cons rfl (one_cons rfl (one_cons rfl (one_cons rfl (one_cons rfl (one_cons rfl (one_cons rfl (one_cons rfl (one_cons rfl (one_cons rfl (one_cons rfl (one_cons rfl (one_cons rfl (one_cons rfl (one_cons rfl one_nil)))))))))))))))))))))))))))))))) (by omega) ((xs55 ++ [(⟨t432.1, (⟨t448.1.f0, t448.1.f1, t448.1.f2, t448.1.f3, t448.1.f4⟩ : S36), (⟨t461.1.f0, t461.1.f1, t461.1.f2, t461.1.f3, t461.1.f4⟩ : S36), (⟨t474.1.f0, t474.1.f1, t474.1.f2, t474.1.f3, t474.1.f4⟩ : S36), (⟨t487.1.f0, t487.1.f1, t487.1.f2, t487.1.f3, t487.1.f4⟩ : S36), t439.1, (⟨t500.1.f0, t500.1.f1, t500.1.f2, t500.1.f3, t500.1.f4⟩ : S36), (⟨t513.1.f0, t513.1.f1, t513.1.f2, t513.1.f3, t513.1.f4⟩ : S36)⟩ : S48)]).length) (by simp) (fun v528 w529 I530 hI531 HS => ?_)
      dsimp only [List.set] at HS
      replace HS := HS.deriveN (p := (fun W => Reps (k48.K W) k48.sz (xs55 ++ [(⟨t432.1, (⟨t448.1.f0, t448.1.f1, t448.1.f2, t448.1.f3, t448.1.f4⟩ : S36), (⟨t461.1.f0, t461.1.f1, t461.1.f2, t461.1.f3, t461.1.f4⟩ : S36), (⟨t474.1.f0, t474.1.f1, t474.1.f2, t474.1.f3, t474.1.f4⟩ : S36), (⟨t487.1.f0, t487.1.f1, t487.1.f2, t487.1.f3, t487.1.f4⟩ : S36), t439.1, (⟨t500.1.f0, t500.1.f1, t500.1.f2, t500.1.f3, t500.1.f4⟩ : S36), (⟨t513.1.f0, t513.1.f1, t513.1.f2, t513.1.f3, t513.1.f4⟩ : S36)⟩ : S48)]) I530)) (fun W_ hN_ => reps_snoc hI531 (AllF.get 14 rfl hN_) (k48_mk _ (⟨t432.1, (⟨t448.1.f0, t448.1.f1, t448.1.f2, t448.1.f3, t448.1.f4⟩ : S36), (⟨t461.1.f0, t461.1.f1, t461.1.f2, t461.1.f3, t461.1.f4⟩ : S36), (⟨t474.1.f0, t474.1.f1, t474.1.f2, t474.1.f3, t474.1.f4⟩ : S36), (⟨t487.1.f0, t487.1.f1, t487.1.f2, t487.1.f3, t487.1.f4⟩ : S36), t439.1, (⟨t500.1.f0, t500.1.f1, t500.1.f2, t500.1.f3, t500.1.f4⟩ : S36), (⟨t513.1.f0, t513.1.f1, t513.1.f2, t513.1.f3, t513.1.f4⟩ : S36)⟩ : S48) (le437) (AllF.get 13 rfl hN_) (le453) (AllF.get 10 rfl hN_) (le457) (AllF.get 11 rfl hN_) (le466) (AllF.get 8 rfl hN_) (le470) (AllF.get 9 rfl hN_) (le479) (AllF.get 6 rfl hN_) (le483) (AllF.get 7 rfl hN_) (le492) (AllF.get 4 rfl hN_) (le496) (AllF.get 5 rfl hN_) (le444) (AllF.get 12 rfl hN_) (le505) (AllF.get 2 rfl hN_) (le509) (AllF.get 3 rfl hN_) (le518) (AllF.get 0 rfl hN_) (le522) (AllF.get 1 rfl hN_)))
      clear HS1
      refine v_ (fa_ Try.underlying39) ?_
      obtain ⟨A533, c534, rfl⟩ := row_slice (HS.mu 1 rfl)
      exact by (
      refine WL.store HS 3 rfl rfl rfl rfl rfl rfl rfl (by kernel_rfl) (Nat.le_of_ble_eq_true rfl) (cs' := #[.int .i64 (wrap64 (4 * (wrap64 (1 + t5.1)))), .int .i64 (wrap64 (1 + t8.1)), .int .i64 (wrap64 (4 + t11.1)), .slice A21 t18.1.length c22, v42, (.slice A533 ((xs55 ++ [(⟨t432.1, (⟨t448.1.f0, t448.1.f1, t448.1.f2, t448.1.f3, t448.1.f4⟩ : S36), (⟨t461.1.f0, t461.1.f1, t461.1.f2, t461.1.f3, t461.1.f4⟩ : S36), (⟨t474.1.f0, t474.1.f1, t474.1.f2, t474.1.f3, t474.1.f4⟩ : S36), (⟨t487.1.f0, t487.1.f1, t487.1.f2, t487.1.f3, t487.1.f4⟩ : S36), t439.1, (⟨t500.1.f0, t500.1.f1, t500.1.f2, t500.1.f3, t500.1.f4⟩ : S36), (⟨t513.1.f0, t513.1.f1, t513.1.f2, t513.1.f3, t513.1.f4⟩ : S36)⟩ : S48)]).length) c534), .slice none 0 0, .int .i64 0, .slice none 0 0, .slice none 0 0, .int .i64 0, .int .i64 0, .slice none 0 0, .slice none 0 0]) (by kernel_rfl) (fun w532 HS => ?_)
      dsimp only [List.set] at HS
      refine dn_ hK220 ?_
      clear hK220
      refine rg_ ?_
      refine mv_ ?_
      exact by (
      refine b_ bin_add64 ?_
      refine as_ ?_
      refine WL.done ?_
      exact WQ.round k213 (fun _ _ h_ => h_) (Nat.lt_succ_self _) ⟨(wrap64 (i52 + 1)), t513.2.f1, t513.2.f2, (xs55 ++ [(⟨t432.1, (⟨t448.1.f0, t448.1.f1, t448.1.f2, t448.1.f3, t448.1.f4⟩ : S36), (⟨t461.1.f0, t461.1.f1, t461.1.f2, t461.1.f3, t461.1.f4⟩ : S36), (⟨t474.1.f0, t474.1.f1, t474.1.f2, t474.1.f3, t474.1.f4⟩ : S36), (⟨t487.1.f0, t487.1.f1, t487.1.f2, t487.1.f3, t487.1.f4⟩ : S36), t439.1, (⟨t500.1.f0, t500.1.f1, t500.1.f2, t500.1.f3, t500.1.f4⟩ : S36), (⟨t513.1.f0, t513.1.f1, t513.1.f2, t513.1.f3, t513.1.f4⟩ : S36)⟩ : S48)]), (.slice A533 ((xs55 ++ [(⟨t432.1, (⟨t448.1.f0, t448.1.f1, t448.1.f2, t448.1.f3, t448.1.f4⟩ : S36), (⟨t461.1.f0, t461.1.f1, t461.1.f2, t461.1.f3, t461.1.f4⟩ : S36), (⟨t474.1.f0, t474.1.f1, t474.1.f2, t474.1.f3, t474.1.f4⟩ : S36), (⟨t487.1.f0, t487.1.f1, t487.1.f2, t487.1.f3, t487.1.f4⟩ : S36), t439.1, (⟨t500.1.f0, t500.1.f1, t500.1.f2, t500.1.f3, t500.1.f4⟩ : S36), (⟨t513.1.f0, t513.1.f1, t513.1.f2, t513.1.f3, t513.1.f4⟩ : S36)⟩ : S48)]).length) c534), I530, rfl, ⟨_, H, Ho51⟩, (St.pick (St.forget HS 0 rfl) (fun W_ h_ => ⟨AllF.get 0 rfl h_, AllF.get 1 rfl h_, trivial⟩) (fun W_ h_ => ⟨AllF.get 0 rfl h_, AllF.get 16 rfl h_, AllF.get 17 rfl h_, trivial⟩))⟩ ⟨rfl, rfl, rfl, rfl, rfl, rfl, trivial⟩ ))))))))))))))))))))))))))))))))))))))
  clear hK34
  refine WC.loop (fun k_ E_ W_ => ∃ (i40 : Int) (xs41 : List (List Int)) (v42 : Value) (I43 : List Value), E_ = [(0, .pointer (some ⟨b0, 0, none⟩)), (2, .pointer (some ⟨b2, 0, none⟩)), (3, .pointer (some ⟨b14, 0, none⟩)), (4, .int .i64 t27), (5, .int .i64 t31.1), (6, .int .i64 i40)] ∧ (∃ o_, spec_l10Right.l3 t5 t27 t31 k_ i40 xs41 = some o_ ∧ G36 o_ = some (r1, y_)) ∧ St (fun _ => True) w0 W_ [rowM w0.heap.size 25 1 v42 xs41.length I43, boxM b14 #[.int .i64 (wrap64 (4 * (wrap64 (1 + t5.1)))), .int .i64 (wrap64 (1 + t8.1)), .int .i64 (wrap64 (4 + t11.1)), .slice A21 t18.1.length c22, v42, .slice none 0 0, .slice none 0 0, .int .i64 0, .slice none 0 0, .slice none 0 0, .int .i64 0, .int .i64 0, .slice none 0 0, .slice none 0 0] 39, boxM b2 #[.int .i64 0, .int .i64 0, .int .i64 0, .slice none 0 0, .slice none 0 0, .slice none 0 0, .slice none 0 0, .int .i64 0, .slice none 0 0, .slice none 0 0, .int .i64 0, .int .i64 0, .slice none 0 0, .slice none 0 0] 39, boxM b0 #[.slice A0_0 x0.f0.length c0_0, .int .i64 t31.2.f1, .int .i64 t31.2.f2] 140, keepM w bs_] [(frameF w b0 bs_), (fun W => (Kd.int .u8).C W A0_0 x0.f0.length x0.f0)] [(fun W => Reps ((Kd.slice 3 (Kd.int .i64)).K W) (Kd.slice 3 (Kd.int .i64)).sz xs41 I43), (fun W => k112.C W A21 t18.1.length t18.1)]) k ⟨0, ([] : List (List Int)), (.slice none 0 0), ([]), rfl, ⟨_, H, Ho39⟩, (St.pick HS (fun W_ h_ => ⟨AllF.get 0 rfl h_, AllF.get 1 rfl h_, trivial⟩) (fun W_ h_ => ⟨AllF.get 0 rfl h_, AllF.get 2 rfl h_, trivial⟩))⟩ ⟨rfl, rfl, rfl, rfl, rfl, rfl, trivial⟩ ?_
  exact by (
  rintro k_ E_ w536 ⟨i40, xs41, v42, I43, rfl, ⟨o38, H, Ho39⟩, HS⟩
  rcases k_ with _ | k537
  · exact no_ H
  replace H : spec_l10Right.b3 t5 t27 t31 (spec_l10Right.l3 t5 t27 t31 k537) k537 i40 xs41 = some o38 := H
  unfold spec_l10Right.b3 at H
  refine WC.seq fun _ hK538 => ?_
  exact by (
  refine sr_ fun _ hK539 => ?_
  refine mv_ ?_
  refine mv_ ?_
  refine b_ bin_lss ?_
  refine dn_ hK539 ?_
  clear hK539
  exact by (
  rcases eti_ H with ⟨c540, H⟩ | ⟨c540, H⟩
  · refine wn_ (dF c540) ?_
    refine WC.exit ?_
    obtain rfl := os H
    exact WQ.via2 (fun _ _ h_ => h_) X44 ⟨i40, xs41, v42, I43, rfl, Ho39, (St.pick HS (fun W_ h_ => ⟨AllF.get 0 rfl h_, AllF.get 1 rfl h_, trivial⟩) (fun W_ h_ => ⟨AllF.get 0 rfl h_, AllF.get 1 rfl h_, trivial⟩))⟩ ⟨rfl, rfl, rfl, rfl, rfl, rfl, trivial⟩
  refine wy_ (dT c540) ?_
  exact by (
  refine WC.skip ?_
  refine via_ hK538 ?_
  clear hK538
  refine WC.seq fun _ hK541 => ?_
  refine WC.block ?_
  refine sr_ fun _ hK542 => ?_
  exact by (
  refine WL.lit0 HS rfl rfl (by decide) rfl Try.underlying25 (sz := 1) (by kernel_rfl) (fun v543 w544 HS => ?_)
  replace HS := HS.deriveN (p := (fun W => Reps ((Kd.int .i64).K W) (Kd.int .i64).sz ([] : List Int) [])) (fun _ _ => Reps.none _ _)
  refine as_ ?_
  refine dn_ hK542 ?_
  clear hK542
  refine WC.seq fun K545 hK545 => ?_
  exact by (
  refine sr_ fun _ hK546 => ?_
  refine as_ ?_
  refine dn_ hK546 ?_
  clear hK546
  refine WC.block ?_
  obtain ⟨G547, hG548, o549, H, Ho550⟩ := open_G H
  exact by (
  have X555 : ∀ E_ W_, (∃ (xs551 : List Int) (v552 : Value) (I553 : List Value) (i554 : Int), E_ = [(0, .pointer (some ⟨b0, 0, none⟩)), (2, .pointer (some ⟨b2, 0, none⟩)), (3, .pointer (some ⟨b14, 0, none⟩)), (4, .int .i64 t27), (5, .int .i64 t31.1), (6, .int .i64 i40), (7, v552), (8, .int .i64 i554)] ∧ G547 (xs551, i554) = some o38 ∧ St (fun _ => True) w0 W_ [rowM w0.heap.size 3 1 v552 xs551.length I553, rowM w0.heap.size 25 1 v42 xs41.length I43, boxM b14 #[.int .i64 (wrap64 (4 * (wrap64 (1 + t5.1)))), .int .i64 (wrap64 (1 + t8.1)), .int .i64 (wrap64 (4 + t11.1)), .slice A21 t18.1.length c22, v42, .slice none 0 0, .slice none 0 0, .int .i64 0, .slice none 0 0, .slice none 0 0, .int .i64 0, .int .i64 0, .slice none 0 0, .slice none 0 0] 39, boxM b2 #[.int .i64 0, .int .i64 0, .int .i64 0, .slice none 0 0, .slice none 0 0, .slice none 0 0, .slice none 0 0, .int .i64 0, .slice none 0 0, .slice none 0 0, .int .i64 0, .int .i64 0, .slice none 0 0, .slice none 0 0] 39, boxM b0 #[.slice A0_0 x0.f0.length c0_0, .int .i64 t31.2.f1, .int .i64 t31.2.f2] 140, keepM w bs_] [(frameF w b0 bs_), (fun W => (Kd.int .u8).C W A0_0 x0.f0.length x0.f0)] [(fun W => Reps ((Kd.int .i64).K W) (Kd.int .i64).sz xs551 I553), (fun W => Reps ((Kd.slice 3 (Kd.int .i64)).K W) (Kd.slice 3 (Kd.int .i64)).sz xs41 I43), (fun W => k112.C W A21 t18.1.length t18.1)]) → ∀ a, Fits a 222 E_ → K545 a W_ := by
    rintro E_ w556 ⟨xs551, v552, I553, i554, rfl, H, HS⟩
    rw [hG548] at H
    (try dsimp only at H)
    refine hK545 _ _ ?_
    clear hK545
    exact by (
    refine rg_ ?_
    refine v_ (fa_ Try.underlying39) ?_
    obtain ⟨A557, c558, rfl⟩ := row_slice (HS.mu 1 rfl)
    refine v_ (lb_ (HS.mu 2 rfl) Try.underlying23 rfl) ?_
    refine mv_ ?_
    obtain ⟨A559, c560, rfl⟩ := row_slice (HS.mu 0 rfl)
    exact by (
    have le561 := row_le (HS.mu 0 rfl)
    replace HS := HS.freezeN 0 (p := (fun W => (Kd.int .i64).C W A559 (xs551).length (xs551))) rfl (fun W_ hm_ h_ => row_C (by rfl) hm_ (AllF.get 0 rfl h_))
    dsimp only [List.eraseIdx] at HS
    refine WL.val rfl rfl (by decide) (Run.lit1 (z := (.slice none 0 0)) (vs := [.slice A559 xs551.length c560]) rfl rfl rfl Try.underlying23 (by kernel_rfl) (Nat.le_of_ble_eq_true rfl) (Nat.le_of_ble_eq_true rfl)) ?_
    have HS1 := HS.below (below_alloc (Below.refl _ _) (.cells #[.slice A559 xs551.length c560] 25))
    obtain ⟨q562, H⟩ := if_some H
    exact by (
    refine WL.append HS1 0 rfl rfl rfl (by decide) rfl (.slice none 0 0) 24 Try.underlying23 (by kernel_rfl) rfl (by decide) (by decide) rfl rfl [.slice A559 xs551.length c560] rfl (lit_news _ _ _) (one_cons rfl one_nil) (by omega) ((xs41 ++ [xs551]).length) (by simp) (fun v563 w564 I565 hI566 HS => ?_)
    dsimp only [List.set] at HS
    replace HS := HS.deriveN (p := (fun W => Reps ((Kd.slice 3 (Kd.int .i64)).K W) (Kd.slice 3 (Kd.int .i64)).sz (xs41 ++ [xs551]) I565)) (fun W_ hN_ => reps_snoc hI566 (AllF.get 2 rfl hN_) (K_slice le561 (AllF.get 0 rfl hN_)))
    clear HS1
    refine v_ (fa_ Try.underlying39) ?_
    obtain ⟨A568, c569, rfl⟩ := row_slice (HS.mu 0 rfl)
    exact by (
    refine WL.store HS 1 rfl rfl rfl rfl rfl rfl rfl (by kernel_rfl) (Nat.le_of_ble_eq_true rfl) (cs' := #[.int .i64 (wrap64 (4 * (wrap64 (1 + t5.1)))), .int .i64 (wrap64 (1 + t8.1)), .int .i64 (wrap64 (4 + t11.1)), .slice A21 t18.1.length c22, (.slice A568 ((xs41 ++ [xs551]).length) c569), .slice none 0 0, .slice none 0 0, .int .i64 0, .slice none 0 0, .slice none 0 0, .int .i64 0, .int .i64 0, .slice none 0 0, .slice none 0 0]) (by kernel_rfl) (fun w567 HS => ?_)
    dsimp only [List.set] at HS
    refine dn_ hK541 ?_
    clear hK541
    refine rg_ ?_
    refine mv_ ?_
    exact by (
    refine b_ bin_add64 ?_
    refine as_ ?_
    refine WL.done ?_
    exact WQ.round k537 (fun _ _ h_ => h_) (Nat.lt_succ_self _) ⟨(wrap64 (i40 + 1)), (xs41 ++ [xs551]), (.slice A568 ((xs41 ++ [xs551]).length) c569), I565, rfl, ⟨_, H, Ho39⟩, (St.pick HS (fun W_ h_ => ⟨AllF.get 0 rfl h_, AllF.get 1 rfl h_, trivial⟩) (fun W_ h_ => ⟨AllF.get 0 rfl h_, AllF.get 4 rfl h_, trivial⟩))⟩ ⟨rfl, rfl, rfl, rfl, rfl, rfl, trivial⟩ )))))
  clear hK545
  refine WC.loop (fun k_ E_ W_ => ∃ (xs551 : List Int) (v552 : Value) (I553 : List Value) (i554 : Int), E_ = [(0, .pointer (some ⟨b0, 0, none⟩)), (2, .pointer (some ⟨b2, 0, none⟩)), (3, .pointer (some ⟨b14, 0, none⟩)), (4, .int .i64 t27), (5, .int .i64 t31.1), (6, .int .i64 i40), (7, v552), (8, .int .i64 i554)] ∧ (∃ o_, spec_l10Right.l4 t5 t31 i40 k_ xs551 i554 = some o_ ∧ G547 o_ = some o38) ∧ St (fun _ => True) w0 W_ [rowM w0.heap.size 3 1 v552 xs551.length I553, rowM w0.heap.size 25 1 v42 xs41.length I43, boxM b14 #[.int .i64 (wrap64 (4 * (wrap64 (1 + t5.1)))), .int .i64 (wrap64 (1 + t8.1)), .int .i64 (wrap64 (4 + t11.1)), .slice A21 t18.1.length c22, v42, .slice none 0 0, .slice none 0 0, .int .i64 0, .slice none 0 0, .slice none 0 0, .int .i64 0, .int .i64 0, .slice none 0 0, .slice none 0 0] 39, boxM b2 #[.int .i64 0, .int .i64 0, .int .i64 0, .slice none 0 0, .slice none 0 0, .slice none 0 0, .slice none 0 0, .int .i64 0, .slice none 0 0, .slice none 0 0, .int .i64 0, .int .i64 0, .slice none 0 0, .slice none 0 0] 39, boxM b0 #[.slice A0_0 x0.f0.length c0_0, .int .i64 t31.2.f1, .int .i64 t31.2.f2] 140, keepM w bs_] [(frameF w b0 bs_), (fun W => (Kd.int .u8).C W A0_0 x0.f0.length x0.f0)] [(fun W => Reps ((Kd.int .i64).K W) (Kd.int .i64).sz xs551 I553), (fun W => Reps ((Kd.slice 3 (Kd.int .i64)).K W) (Kd.slice 3 (Kd.int .i64)).sz xs41 I43), (fun W => k112.C W A21 t18.1.length t18.1)]) k537 ⟨([] : List Int), v543, ([]), 0, rfl, ⟨_, H, Ho550⟩, (St.pick HS (fun W_ h_ => ⟨AllF.get 0 rfl h_, AllF.get 1 rfl h_, trivial⟩) (fun W_ h_ => ⟨AllF.get 0 rfl h_, AllF.get 1 rfl h_, AllF.get 2 rfl h_, trivial⟩))⟩ ⟨rfl, rfl, rfl, rfl, rfl, rfl, rfl, rfl, trivial⟩ ?_
  exact by (
  rintro k_ E_ w571 ⟨xs551, v552, I553, i554, rfl, ⟨o549, H, Ho550⟩, HS⟩
  rcases k_ with _ | k572
  · exact no_ H
  replace H : spec_l10Right.b4 t5 t31 i40 (spec_l10Right.l4 t5 t31 i40 k572) k572 xs551 i554 = some o549 := H
  unfold spec_l10Right.b4 at H
  refine WC.seq fun _ hK573 => ?_
  exact by (
  refine sr_ fun _ hK574 => ?_
  refine mv_ ?_
  refine v_ (fa_ Try.underlying39) ?_
  refine v_ (lb_ (HS.mu 2 rfl) Try.underlying3 rfl) ?_
  refine b_ bin_lss ?_
  refine dn_ hK574 ?_
  exact by (
  clear hK574
  rcases eti_ H with ⟨c575, H⟩ | ⟨c575, H⟩
  · refine wn_ (dF c575) ?_
    refine WC.exit ?_
    obtain rfl := os H
    exact WQ.via2 (fun _ _ h_ => h_) X555 ⟨xs551, v552, I553, i554, rfl, Ho550, (St.pick HS (fun W_ h_ => ⟨AllF.get 0 rfl h_, AllF.get 1 rfl h_, trivial⟩) (fun W_ h_ => ⟨AllF.get 0 rfl h_, AllF.get 1 rfl h_, AllF.get 2 rfl h_, trivial⟩))⟩ ⟨rfl, rfl, rfl, rfl, rfl, rfl, rfl, rfl, trivial⟩
  exact by (
  refine wy_ (dT c575) ?_
  refine WC.skip ?_
  refine via_ hK573 ?_
  clear hK573
  refine WC.seq fun _ hK576 => ?_
  refine WC.block ?_
  exact by (
  refine rg_ ?_
  refine mv_ ?_
  refine mv_ ?_
  refine mv_ ?_
  refine b_ bin_mul64 ?_
  refine b_ bin_add64 ?_
  exact by (
  refine mv_ ?_
  refine b_ bin_mul64 ?_
  refine b_ bin_add64 ?_
  refine mv_ ?_
  refine mv_ ?_
  refine b_ bin_mul64 ?_
  exact by (
  refine b_ bin_mul64 ?_
  refine b_ bin_add64 ?_
  refine v_ (Run.bin rfl rfl rfl (bin_rem (show (255 : Int) ≠ 0 by decide))) ?_
  refine b_ bin_sub64 ?_
  refine WL.val rfl rfl (by decide) (Run.lit1 (z := (.int .i64 0)) (vs := [.int .i64 (wrap64 ((Int.tmod (wrap64 ((wrap64 ((wrap64 (t31.1 + (wrap64 (i40 * 37)))) + (wrap64 (i554 * 91)))) + (wrap64 ((wrap64 (i40 * i554)) * 13)))) 255) - 127))]) rfl rfl rfl Try.underlying25 (by kernel_rfl) (Nat.le_of_ble_eq_true rfl) (Nat.le_of_ble_eq_true rfl)) ?_
  have HS1 := HS.below (below_alloc (Below.refl _ _) (.cells #[.int .i64 (wrap64 ((Int.tmod (wrap64 ((wrap64 ((wrap64 (t31.1 + (wrap64 (i40 * 37)))) + (wrap64 (i554 * 91)))) + (wrap64 ((wrap64 (i40 * i554)) * 13)))) 255) - 127))] 3))
  exact by (
  obtain ⟨q577, H⟩ := if_some H
  refine WL.append HS1 0 rfl rfl rfl (by decide) rfl (.int .i64 0) 8 Try.underlying25 (by kernel_rfl) rfl (by decide) (by decide) rfl rfl [.int .i64 (wrap64 ((Int.tmod (wrap64 ((wrap64 ((wrap64 (t31.1 + (wrap64 (i40 * 37)))) + (wrap64 (i554 * 91)))) + (wrap64 ((wrap64 (i40 * i554)) * 13)))) 255) - 127))] rfl (lit_news _ _ _) (one_cons rfl one_nil) (by omega) ((xs551 ++ [wrap64 ((Int.tmod (wrap64 ((wrap64 ((wrap64 (t31.1 + (wrap64 (i40 * 37)))) + (wrap64 (i554 * 91)))) + (wrap64 ((wrap64 (i40 * i554)) * 13)))) 255) - 127)]).length) (by simp) (fun v578 w579 I580 hI581 HS => ?_)
  dsimp only [List.set] at HS
  replace HS := HS.deriveN (p := (fun W => Reps ((Kd.int .i64).K W) (Kd.int .i64).sz (xs551 ++ [wrap64 ((Int.tmod (wrap64 ((wrap64 ((wrap64 (t31.1 + (wrap64 (i40 * 37)))) + (wrap64 (i554 * 91)))) + (wrap64 ((wrap64 (i40 * i554)) * 13)))) 255) - 127)]) I580)) (fun W_ hN_ => reps_snoc hI581 (AllF.get 0 rfl hN_) (K_int _))
  clear HS1
  refine as_ ?_
  exact by (
  refine dn_ hK576 ?_
  clear hK576
  refine rg_ ?_
  refine mv_ ?_
  refine b_ bin_add64 ?_
  refine as_ ?_
  exact by (
  refine WL.done ?_
  exact WQ.round k572 (fun _ _ h_ => h_) (Nat.lt_succ_self _) ⟨(xs551 ++ [wrap64 ((Int.tmod (wrap64 ((wrap64 ((wrap64 (t31.1 + (wrap64 (i40 * 37)))) + (wrap64 (i554 * 91)))) + (wrap64 ((wrap64 (i40 * i554)) * 13)))) 255) - 127)]), v578, I580, (wrap64 (i554 + 1)), rfl, ⟨_, H, Ho550⟩, (St.pick HS (fun W_ h_ => ⟨AllF.get 0 rfl h_, AllF.get 1 rfl h_, trivial⟩) (fun W_ h_ => ⟨AllF.get 0 rfl h_, AllF.get 2 rfl h_, AllF.get 3 rfl h_, trivial⟩))⟩ ⟨rfl, rfl, rfl, rfl, rfl, rfl, rfl, rfl, trivial⟩ ))))))))))))))))))))))))))))))))
end Go.Proofs.Ytacbkcofcbglhaa.PFnBudget
