/- Functions that the statement reaches, as Lean functions, and the proof that a call of each comes to just its answer; written by this claim's own program. No conditions. -/
import Derived.Test.YtbdbadkinjbpcaaGFnFiles5
namespace Go.Proofs.Ytbdbadkinjbpcaa.PFnFiles
open Try
open Go.RowKit Go.Proofs.YtbdbadkinjbpcaaW.PrintWords Go.Proofs.YtbdbadkinjbpcaaW.PrintLast Go.Proofs.YtbdbadkinjbpcaaW.PrintMore Go.Proofs.Ytbdbadkinjbpcaa.XW Go.Proofs.Ytbdbadkinjbpcaa.XOp Go.Proofs.Ytbdbadkinjbpcaa.XSt Go.Proofs.Ytbdbadkinjbpcaa.XDraw
set_option linter.unusedVariables false
set_option linter.unusedSimpArgs false
set_option maxHeartbeats 4000000
set_option maxRecDepth 20000
def laws_FnFiles.g (k : Nat) (l0 : List Int) : Option Bool := ((laws_big.f l0).bind fun t4 => (if t4 = true then (some true) else ((sDRM.g k l0).bind fun t10 => ((iMT.g k t10.1).bind fun t24 => ((iRM.g k t24.1).bind fun t28 => ((sMT.g k t28.1).bind fun t38 => (if t24.2 = true then (if t28.2 = 0 then (if t38.2 = true then (if t38.1.toList = t24.1.toList then ((impl_FileBytes.g k t10.1).bind fun t47 => (if t47 = (t24.1.size : Int) then ((sMO1.g k t28.1).bind fun t51 => (if t51 = true then ((sDP.g k l0).bind fun t56 => (if (t24.1).size < 4294967296 then (if (0 : Int) ≤ 0 ∧ 0 < (t56.length : Int) then (if (0 : Int) ≤ 1 ∧ 1 < (t56.length : Int) then (if ((bytesOf t24.1).length : Int) ≠ 0 then (if 0 ≤ (Int.tmod (wrap64 ((wrap64 (10000 * (t56.getD (0 : Int).toNat 0))) + (t56.getD (1 : Int).toNat 0))) ((bytesOf t24.1).length : Int)) ∧ (Int.tmod (wrap64 ((wrap64 (10000 * (t56.getD (0 : Int).toNat 0))) + (t56.getD (1 : Int).toNat 0))) ((bytesOf t24.1).length : Int)) < (((bytesOf t24.1).length : Nat) : Int) then (if (0 : Int) ≤ 2 ∧ 2 < (t56.length : Int) then ((iRM.g k (strOfNums ((bytesOf t24.1).set (Int.tmod (wrap64 ((wrap64 (10000 * (t56.getD (0 : Int).toNat 0))) + (t56.getD (1 : Int).toNat 0))) ((bytesOf t24.1).length : Int)).toNat (Go.bits .xor .u8 ((bytesOf t24.1).getD (Int.tmod (wrap64 ((wrap64 (10000 * (t56.getD (0 : Int).toNat 0))) + (t56.getD (1 : Int).toNat 0))) ((bytesOf t24.1).length : Int)).toNat 0) (IntKind.u8.wrap (wrap64 (1 + (Int.tmod (t56.getD (2 : Int).toNat 0) 255)))))))).bind fun t93 => (if (0 : Int) ≤ 3 ∧ 3 < (t56.length : Int) then (if 0 ≤ (wrap64 ((wrap64 ((t24.1.size : Int) - 1)) - (Int.tmod (t56.getD (3 : Int).toNat 0) 19))) ∧ (wrap64 ((wrap64 ((t24.1.size : Int) - 1)) - (Int.tmod (t56.getD (3 : Int).toNat 0) 19))) ≤ (t24.1.size : Int) then ((iRM.g k (t24.1.extract 0 (wrap64 ((wrap64 ((t24.1.size : Int) - 1)) - (Int.tmod (t56.getD (3 : Int).toNat 0) 19))).toNat)).bind fun t107 => (if t24.1.size + (⟨#[120]⟩ : ByteArray).size < 4294967296 then ((iRM.g k (t24.1 ++ (⟨#[120]⟩ : ByteArray))).bind fun t118 => (if t93.2 = 2 then (if t107.2 = 0 then (some false) else (some (t118.2 != 0))) else (some false))) else none)) else none) else none)) else none) else none) else none) else none) else none) else none)) else (some false))) else (some false))) else (some false)) else (some false)) else (some false)) else (some false))))))))
theorem laws_FnFiles.runs (k : Nat) (A0 : Option Addr) (c0 : Nat) (l0 : List Int) (r : Bool) (w : World) (hr0 : kU.C w A0 l0.length l0) (hc0 : l0.length ≤ c0) (H : laws_FnFiles.g k l0 = some r) :
   Calls prog 3 #[.slice A0 l0.length c0] w fun e w' => e = .returned (.bool r) ∧ Below w.heap.size w w' := by
 unfold laws_FnFiles.g at H
 have HS : St (fun _ => True) w w [] [(cF kU A0 l0)] [] := St.start (foot_cons (foot_C (Kd.heap_int _) hr0) foot_nil)
 refine cw_ (n := 134) func3 fun R_ hR_ => ?_
 refine sr_ fun _ hK1 => ?_
 refine ad_ hK1 ?_
 clear hK1
 refine WC.seq fun _ hK2 => ?_
 refine sr_ fun _ hK3 => ?_
 refine mv_ ?_
 obtain ⟨t4, ha5, H⟩ := bind_some H
 refine cs0_ HS func4 (laws_big.calls A0 c0 l0 t4 _ (HS.getO 0 rfl) hc0 ha5) (fun w6 HS => ?_)
 clear ha5
 refine dn_ hK3 ?_
 clear hK3
 rcases ite_ H with ⟨c7, H⟩ | ⟨c7, H⟩
 · refine wy_ c7 ?_
   exact by (
   refine sr_ fun _ hK8 => ?_
   refine ad_ hK8 ?_
   clear hK8
   obtain rfl := os H
   exact rt1 Try.f3 rfl rfl hR_ ⟨rfl, HS.b⟩ )
 refine wn_ (bF c7) (WC.skip (via_ hK2 (sr_ fun _ hK9 => ?_)))
 clear hK2
 refine mv_ ?_
 obtain ⟨t10, ha11, H⟩ := bind_some H
 refine c_ func5 (sDRM.runs k A0 c0 l0 t10.1 t10.2 _ (HS.getO 0 rfl) hc0 ha11) ?_
 clear ha11
 rintro _ w12 ⟨cs13, A16, c17, rfl, hf14, le18, hf19, hb⟩
 replace HS := HS.newNs hb (foot_cons hf14 (foot_cons hf19 foot_nil))
 have el15 : cs13.length = 14 := k33.K_len (Foot.now hf14)
 refine ⟨_, rfl, ?_⟩
 clear hb
 exact by (
 refine mv_ ?_
 refine v_ (Run.extract rfl rfl rfl) ?_
 refine v_ (Run.extract rfl rfl rfl) ?_
 refine WL.alloc HS (v := .agg zz1) (cs := zz1) rfl rfl (by decide) rfl (by kernel_rfl) rfl (fun b20 w21 hb20 HS => ?_)
 refine WL.storeS HS 0 rfl rfl rfl rfl rfl rfl (Kd.K_one _ (HS.getN 0 rfl)) (by rw [el15]; kernel_rfl) (by rw [el15]; decide) (splice_all (by rw [el15]; rfl)) (fun w22 HS => ?_)
 dsimp only [List.set] at HS
 refine ad_ hK9 ?_
 clear hK9
 refine sr_ fun _ hK23 => ?_
 refine v_ (Run.loadS (cs := cs13) rfl rfl underlying33 rfl (by rw [el15]; kernel_rfl) (box_part (HS.mu 0 rfl) part_all)) ?_
 obtain ⟨t24, ha25, H⟩ := bind_some H
 refine cs_ HS func6 (iMT.runs k cs13 t10.1 t24.1 t24.2 _ (HS.getN 0 rfl) ha25) (fun w26 HS => ?_)
 clear ha25
 refine mv_ ?_
 refine v_ (Run.extract rfl rfl rfl) ?_
 refine v_ (Run.extract rfl rfl rfl) ?_
 exact by (
 refine as_ ?_
 refine ad_ hK23 ?_
 clear hK23
 refine sr_ fun _ hK27 => ?_
 refine mv_ ?_
 obtain ⟨t28, ha29, H⟩ := bind_some H
 refine c_ func7 (iRM.runs k t24.1 t28.1 t28.2 _  ha29) ?_
 clear ha29
 rintro _ w30 ⟨cs31, rfl, hf32, hb⟩
 replace HS := HS.newNs hb (foot_cons hf32 foot_nil)
 have el33 : cs31.length = 14 := k33.K_len (Foot.now hf32)
 refine ⟨_, rfl, ?_⟩
 clear hb
 refine mv_ ?_
 refine v_ (Run.extract rfl rfl rfl) ?_
 refine v_ (Run.extract rfl rfl rfl) ?_
 exact by (
 refine WL.alloc HS (v := .agg zz1) (cs := zz1) rfl rfl (by decide) rfl (by kernel_rfl) rfl (fun b34 w35 hb34 HS => ?_)
 refine WL.storeS HS 0 rfl rfl rfl rfl rfl rfl (Kd.K_one _ (HS.getN 0 rfl)) (by rw [el33]; kernel_rfl) (by rw [el33]; decide) (splice_all (by rw [el33]; rfl)) (fun w36 HS => ?_)
 dsimp only [List.set] at HS
 refine ad_ hK27 ?_
 clear hK27
 refine sr_ fun _ hK37 => ?_
 refine v_ (Run.loadS (cs := cs31) rfl rfl underlying33 rfl (by rw [el33]; kernel_rfl) (box_part (HS.mu 0 rfl) part_all)) ?_
 obtain ⟨t38, ha39, H⟩ := bind_some H
 refine cs_ HS func8 (sMT.runs k cs31 t28.1 t38.1 t38.2 _ (HS.getN 0 rfl) ha39) (fun w40 HS => ?_)
 clear ha39
 refine mv_ ?_
 refine v_ (Run.extract rfl rfl rfl) ?_
 refine v_ (Run.extract rfl rfl rfl) ?_
 refine as_ ?_
 refine ad_ hK37 ?_
 clear hK37
 exact by (
 refine WC.seq fun _ hK41 => ?_
 refine sr_ fun _ hK42 => ?_
 refine mv_ ?_
 refine nt_ ?_
 refine mv_ ?_
 rcases eti_ H with ⟨c43, H⟩ | ⟨c43, H⟩
 · refine off_ (c' := true) (nB (bF c43)) ?_
   refine WL.know 44 (nB (bF c43)) ?_
   refine fast_ ?_
   refine via_ hK42 (wy_ rfl ?_)
   clear hK42
   refine sr_ fun _ hK135 => ?_
   refine ad_ hK135 ?_
   clear hK135
   obtain rfl := os H
   exact rt1 Try.f3 rfl rfl hR_ ⟨rfl, HS.b⟩
 exact by (
 refine on_ (nB c43) (mv_ ?_)
 refine on_ (nB c43) (b_ bin_neq ?_)
 refine v_ (Run.pickF rfl rfl (nB c43) rfl) ?_
 refine mv_ ?_
 rcases eti_ H with ⟨c44, H⟩ | ⟨c44, H⟩
 · refine off_ (c' := true) (qT c44) ?_
   refine WL.know 48 (qT c44) ?_
   refine fast_ ?_
   refine via_ hK42 (wy_ rfl ?_)
   clear hK42
   refine sr_ fun _ hK134 => ?_
   refine ad_ hK134 ?_
   clear hK134
   obtain rfl := os H
   exact rt1 Try.f3 rfl rfl hR_ ⟨rfl, HS.b⟩
 refine on_ (qF c44) (mv_ ?_)
 exact by (
 refine on_ (qF c44) (nt_ ?_)
 refine v_ (Run.pickF rfl rfl (qF c44) rfl) ?_
 refine mv_ ?_
 rcases eti_ H with ⟨c45, H⟩ | ⟨c45, H⟩
 · refine off_ (c' := true) (nB (bF c45)) ?_
   refine WL.know 52 (nB (bF c45)) ?_
   refine fast_ ?_
   refine via_ hK42 (wy_ rfl ?_)
   clear hK42
   refine sr_ fun _ hK133 => ?_
   refine ad_ hK133 ?_
   clear hK133
   obtain rfl := os H
   exact rt1 Try.f3 rfl rfl hR_ ⟨rfl, HS.b⟩
 refine on_ (nB c45) (mv_ ?_)
 refine on_ (nB c45) (mv_ ?_)
 exact by (
 refine on_ (nB c45) (v_ (Run.binT rfl rfl rfl bin_neqT) ?_)
 refine v_ (Run.pickF rfl rfl (nB c45) rfl) ?_
 refine mv_ ?_
 rcases eti_ H with ⟨c46, H⟩ | ⟨c46, H⟩
 · refine off_ (c' := true) (qT c46) ?_
   refine WL.know 57 (qT c46) ?_
   refine fast_ ?_
   refine via_ hK42 (wy_ rfl ?_)
   clear hK42
   refine sr_ fun _ hK132 => ?_
   refine ad_ hK132 ?_
   clear hK132
   obtain rfl := os H
   exact rt1 Try.f3 rfl rfl hR_ ⟨rfl, HS.b⟩
 refine on_ (qF c46) (v_ (Run.loadS (cs := cs13) rfl rfl underlying33 rfl (by rw [el15]; kernel_rfl) (box_part (HS.mu 1 rfl) part_all)) ?_)
 refine on_ (qF c46) ?_
 exact by (
 obtain ⟨t47, ha48, H⟩ := bind_some H
 refine cs_ HS func9 (impl_FileBytes.runs k cs13 t10.1 t47 _ (HS.getN 1 rfl) ha48) (fun w49 HS => ?_)
 clear ha48
 refine on_ (qF c46) (mv_ ?_)
 refine on_ (qF c46) (v_ (Run.lenStr rfl underlying9 rfl) ?_)
 refine on_ (qF c46) (b_ bin_neq ?_)
 refine v_ (Run.pickF rfl rfl (qF c46) rfl) ?_
 refine mv_ ?_
 rcases eti_ H with ⟨c50, H⟩ | ⟨c50, H⟩
 · refine off_ (c' := true) (qT c50) ?_
   refine WL.know 64 (qT c50) ?_
   refine fast_ ?_
   refine via_ hK42 (wy_ rfl ?_)
   clear hK42
   refine sr_ fun _ hK131 => ?_
   refine ad_ hK131 ?_
   exact by (
   clear hK131
   obtain rfl := os H
   exact rt1 Try.f3 rfl rfl hR_ ⟨rfl, HS.b⟩ )
 refine on_ (qF c50) (v_ (Run.loadS (cs := cs31) rfl rfl underlying33 rfl (by rw [el33]; kernel_rfl) (box_part (HS.mu 0 rfl) part_all)) ?_)
 refine on_ (qF c50) ?_
 obtain ⟨t51, ha52, H⟩ := bind_some H
 refine cs_ HS func10 (sMO1.runs k cs31 t28.1 t51 _ (HS.getN 0 rfl) ha52) (fun w53 HS => ?_)
 clear ha52
 refine on_ (qF c50) (nt_ ?_)
 refine v_ (Run.pickF rfl rfl (qF c50) rfl) ?_
 refine dn_ hK42 ?_
 clear hK42
 rcases eti_ H with ⟨c54, H⟩ | ⟨c54, H⟩
 · refine wy_ (nB (bF c54)) (sr_ fun _ hK130 => ?_)
   refine ad_ hK130 ?_
   clear hK130
   obtain rfl := os H
   exact rt1 Try.f3 rfl rfl hR_ ⟨rfl, HS.b⟩
 exact by (
 refine wn_ (nB c54) (WC.skip (via_ hK41 (sr_ fun _ hK55 => ?_)))
 clear hK41
 refine mv_ ?_
 obtain ⟨t56, ha57, H⟩ := bind_some H
 refine c_ func11 (sDP.runs k A0 c0 l0 t56 _ (HS.getO 0 rfl) hc0 ha57) ?_
 clear ha57
 rintro _ w58 ⟨A59, c60, rfl, le61, hf62, hb⟩
 replace HS := HS.newNs hb (foot_cons hf62 foot_nil)
 refine ⟨_, rfl, ?_⟩
 clear hb
 refine ad_ hK55 ?_
 clear hK55
 refine sr_ fun _ hK63 => ?_
 refine mv_ ?_
 obtain ⟨q64, H⟩ := if_some H
 refine WL.bytes HS rfl rfl (by decide) rfl underlying9 underlying22 underlying5 rfl q64 (fun v65 w66 HS => ?_)
 exact by (
 replace HS := HS.deriveO (p := (rF kU (bytesOf t24.1) (bcells t24.1))) (fun W_ hO_ hN_ => bcells_reps _)
 refine ad_ hK63 ?_
 clear hK63
 refine WC.seq fun _ hK67 => ?_
 refine WC.drawS HS [] rfl rfl (fun w68 HS => ?_)
 have HB := Below.refl w68.heap.size w68
 have HSW := HS
 refine dm_ 0 ?_
 obtain ⟨⟨q69, q70⟩, H⟩ := if_some H
 obtain ⟨ad71, rfl⟩ := C_open (HS.getN 0 rfl) (by omega)
 refine di_ 1 underlying27 1 q69 q70 ?_
 refine dm_ 4 ?_
 obtain ⟨⟨q72, q73⟩, H⟩ := if_some H
 refine di_ 5 underlying27 1 q72 q73 ?_
 refine dm_ 8 ?_
 obtain ⟨A74, c75, rfl⟩ := rowX_slice (HS.mu 0 rfl)
 exact by (
 refine dp_ 9 (fun _ => Run.len (ts := #[]) rfl underlying22 rfl) ?_
 refine dt_ 2 (Below.refl _ _) (fun w_ hw_ => Run.load rfl rfl underlying3 rfl (int_cell ((HS.below hw_).getN 0 rfl) 0 q69 q70)) ?_
 refine dp_ 3 (fun _ => Run.bin rfl rfl rfl bin_mul64) ?_
 refine dt_ 6 (Below.refl _ _) (fun w_ hw_ => Run.load rfl rfl underlying3 rfl (int_cell ((HS.below hw_).getN 0 rfl) 1 q72 q73)) ?_
 refine dp_ 7 (fun _ => Run.bin rfl rfl rfl bin_add64) ?_
 obtain ⟨z76, H⟩ := if_some H
 refine dp_ 10 (fun _ => Run.bin rfl rfl rfl (bin_rem z76)) ?_
 refine dp_ 11 (fun _ => Run.assign rfl rfl) ?_
 refine dd_ ?_
 clear HB HSW
 refine via_ hK67 (WC.seq fun _ hK77 => ?_)
 clear hK67
 refine WC.drawW HS [rowX w.heap.size 5 1 (.slice A74 ((bytesOf t24.1).length) c75) ((bytesOf t24.1).length) (bcells t24.1), boxM b34 cs31.toArray 33, boxM b20 cs13.toArray 33] (fun _ HS => ⟨(HS.mu 0 rfl), (HS.mu 1 rfl), (HS.mu 2 rfl), trivial⟩) [14] rfl rfl (fun w78 HS => ?_)
 refine dm_ 0 ?_
 refine dm_ 1 ?_
 refine dm_ 2 ?_
 exact by (
 refine dm_ 3 ?_
 obtain ⟨⟨q79, q80⟩, H⟩ := if_some H
 obtain ⟨ad81, rfl⟩ := rowX_open (HS.mu 0 rfl) (by omega)
 refine di_ 4 underlying22 1 q79 q80 ?_
 refine dm_ 6 ?_
 obtain ⟨⟨q82, q83⟩, H⟩ := if_some H
 refine di_ 7 underlying27 1 q82 q83 ?_
 refine dt_ 5 ⟨HS.nowO, HS.nowN, ⟨(HS.mu 0 rfl), (HS.mu 1 rfl), (HS.mu 2 rfl), trivial⟩⟩ (fun w_ hw_ => Run.load rfl rfl underlying5 rfl (rowX_int hw_.2.2.1 (AllF.get 0 rfl hw_.1) q79 q80)) ?_
 refine dt_ 8 ⟨HS.nowO, HS.nowN, ⟨(HS.mu 0 rfl), (HS.mu 1 rfl), (HS.mu 2 rfl), trivial⟩⟩ (fun w_ hw_ => Run.load rfl rfl underlying3 rfl (int_cell (AllF.get 0 rfl hw_.2.1) 2 q82 q83)) ?_
 refine dp_ 9 (fun _ => Run.bin rfl rfl rfl (bin_rem (show (255 : Int) ≠ 0 by decide))) ?_
 refine dp_ 10 (fun _ => Run.bin rfl rfl rfl bin_add64) ?_
 refine dp_ 11 (fun _ => Run.convI rfl underlying3 underlying5 rfl) ?_
 refine dp_ 12 (fun _ => Run.bin rfl rfl rfl bin_xor) ?_
 refine di_ 13 underlying22 1 q79 q80 ?_
 have hk_ := mul_room q79 q80 1
 refine WD.putElXL 14 HS 0 rfl rfl rfl rfl [.int .u8 (Go.bits .xor .u8 ((bytesOf t24.1).getD (Int.tmod (wrap64 ((wrap64 (10000 * (t56.getD (0 : Int).toNat 0))) + (t56.getD (1 : Int).toNat 0))) ((bytesOf t24.1).length : Int)).toNat 0) (IntKind.u8.wrap (wrap64 (1 + (Int.tmod (t56.getD (2 : Int).toNat 0) 255)))))] rfl (oneL rfl) (by kernel_rfl) (by first | omega | (rw [List.length_nil]; omega) | (simp; omega)) (fun w84 I85 hI86 HS => ?_)
 exact by (
 dsimp only [List.set] at HS
 clear hk_
 replace HS := HS.deriveO (p := (rF kU ((bytesOf t24.1).set (Int.tmod (wrap64 ((wrap64 (10000 * (t56.getD (0 : Int).toNat 0))) + (t56.getD (1 : Int).toNat 0))) ((bytesOf t24.1).length : Int)).toNat (Go.bits .xor .u8 ((bytesOf t24.1).getD (Int.tmod (wrap64 ((wrap64 (10000 * (t56.getD (0 : Int).toNat 0))) + (t56.getD (1 : Int).toNat 0))) ((bytesOf t24.1).length : Int)).toNat 0) (IntKind.u8.wrap (wrap64 (1 + (Int.tmod (t56.getD (2 : Int).toNat 0) 255)))))) I85)) (fun W_ hO_ hN_ => reps_set hI86 hO_.1 (K_int _) (toNat_lt q79 q80))
 replace HS := HS.rowXN 0 rfl (show (bytesOf t24.1).length = ((bytesOf t24.1).set (Int.tmod (wrap64 ((wrap64 (10000 * (t56.getD (0 : Int).toNat 0))) + (t56.getD (1 : Int).toNat 0))) ((bytesOf t24.1).length : Int)).toNat (Go.bits .xor .u8 ((bytesOf t24.1).getD (Int.tmod (wrap64 ((wrap64 (10000 * (t56.getD (0 : Int).toNat 0))) + (t56.getD (1 : Int).toNat 0))) ((bytesOf t24.1).length : Int)).toNat 0) (IntKind.u8.wrap (wrap64 (1 + (Int.tmod (t56.getD (2 : Int).toNat 0) 255)))))).length from (List.length_set ..).symm)
 dsimp only [List.set] at HS
 generalize hv88 : (Value.slice (some ad81) ((bytesOf t24.1).length) c75) = v87 at HS ⊢
 refine dd_ (via_ hK77 (sr_ fun _ hK89 => ?_))
 clear hK77
 refine mv_ ?_
 obtain ⟨A90, c91, rfl⟩ := rowX_slice (HS.mu 0 rfl)
 have le92 := rowX_le (HS.mu 0 rfl)
 replace HS := HS.freezeO 0 (p := (cF kU A90 (((bytesOf t24.1).set (Int.tmod (wrap64 ((wrap64 (10000 * (t56.getD (0 : Int).toNat 0))) + (t56.getD (1 : Int).toNat 0))) ((bytesOf t24.1).length : Int)).toNat (Go.bits .xor .u8 ((bytesOf t24.1).getD (Int.tmod (wrap64 ((wrap64 (10000 * (t56.getD (0 : Int).toNat 0))) + (t56.getD (1 : Int).toNat 0))) ((bytesOf t24.1).length : Int)).toNat 0) (IntKind.u8.wrap (wrap64 (1 + (Int.tmod (t56.getD (2 : Int).toNat 0) 255))))))))) rfl (fun W_ hm_ h_ => rowX_C (by rfl) hm_ h_.1)
 dsimp only [List.eraseIdx] at HS
 refine v_ (Run.str (xs := ((bytesOf t24.1).set (Int.tmod (wrap64 ((wrap64 (10000 * (t56.getD (0 : Int).toNat 0))) + (t56.getD (1 : Int).toNat 0))) ((bytesOf t24.1).length : Int)).toNat (Go.bits .xor .u8 ((bytesOf t24.1).getD (Int.tmod (wrap64 ((wrap64 (10000 * (t56.getD (0 : Int).toNat 0))) + (t56.getD (1 : Int).toNat 0))) ((bytesOf t24.1).length : Int)).toNat 0) (IntKind.u8.wrap (wrap64 (1 + (Int.tmod (t56.getD (2 : Int).toNat 0) 255))))))) rfl underlying22 underlying5 underlying9 rfl (HS.getO 0 rfl)) ?_
 obtain ⟨t93, ha94, H⟩ := bind_some H
 refine c_ func7 (iRM.runs k (strOfNums ((bytesOf t24.1).set (Int.tmod (wrap64 ((wrap64 (10000 * (t56.getD (0 : Int).toNat 0))) + (t56.getD (1 : Int).toNat 0))) ((bytesOf t24.1).length : Int)).toNat (Go.bits .xor .u8 ((bytesOf t24.1).getD (Int.tmod (wrap64 ((wrap64 (10000 * (t56.getD (0 : Int).toNat 0))) + (t56.getD (1 : Int).toNat 0))) ((bytesOf t24.1).length : Int)).toNat 0) (IntKind.u8.wrap (wrap64 (1 + (Int.tmod (t56.getD (2 : Int).toNat 0) 255))))))) t93.1 t93.2 _  ha94) ?_
 exact by (
 clear ha94
 rintro _ w95 ⟨cs96, rfl, hf97, hb⟩
 replace HS := HS.newNs hb (foot_cons hf97 foot_nil)
 have el98 : cs96.length = 14 := k33.K_len (Foot.now hf97)
 refine ⟨_, rfl, ?_⟩
 clear hb
 refine mv_ ?_
 refine v_ (Run.extract rfl rfl rfl) ?_
 refine v_ (Run.extract rfl rfl rfl) ?_
 refine WL.alloc HS (v := .agg zz1) (cs := zz1) rfl rfl (by decide) rfl (by kernel_rfl) rfl (fun b99 w100 hb99 HS => ?_)
 refine WL.storeS HS 0 rfl rfl rfl rfl rfl rfl (Kd.K_one _ (HS.getN 0 rfl)) (by rw [el98]; kernel_rfl) (by rw [el98]; decide) (splice_all (by rw [el98]; rfl)) (fun w101 HS => ?_)
 dsimp only [List.set] at HS
 refine ad_ hK89 ?_
 clear hK89
 refine sr_ fun _ hK102 => ?_
 refine mv_ ?_
 exact by (
 refine mv_ ?_
 refine v_ (Run.lenStr rfl underlying9 rfl) ?_
 refine b_ bin_sub64 ?_
 refine mv_ ?_
 obtain ⟨⟨q103, q104⟩, H⟩ := if_some H
 refine v_ (ia_ underlying27 1 q103 q104) ?_
 refine v_ (Run.load rfl rfl underlying3 rfl (int_cell (HS.getN 1 rfl) 3 q103 q104)) ?_
 refine v_ (Run.bin rfl rfl rfl (bin_rem (show (19 : Int) ≠ 0 by decide))) ?_
 refine b_ bin_sub64 ?_
 obtain ⟨⟨q105, q106⟩, H⟩ := if_some H
 refine v_ (Run.strH rfl underlying9 rfl rfl q105 q106) ?_
 obtain ⟨t107, ha108, H⟩ := bind_some H
 refine c_ func7 (iRM.runs k (t24.1.extract 0 (wrap64 ((wrap64 ((t24.1.size : Int) - 1)) - (Int.tmod (t56.getD (3 : Int).toNat 0) 19))).toNat) t107.1 t107.2 _  ha108) ?_
 clear ha108
 rintro _ w109 ⟨cs110, rfl, hf111, hb⟩
 replace HS := HS.newNs hb (foot_cons hf111 foot_nil)
 exact by (
 have el112 : cs110.length = 14 := k33.K_len (Foot.now hf111)
 refine ⟨_, rfl, ?_⟩
 clear hb
 refine mv_ ?_
 refine v_ (Run.extract rfl rfl rfl) ?_
 refine v_ (Run.extract rfl rfl rfl) ?_
 refine WL.alloc HS (v := .agg zz1) (cs := zz1) rfl rfl (by decide) rfl (by kernel_rfl) rfl (fun b113 w114 hb113 HS => ?_)
 refine WL.storeS HS 0 rfl rfl rfl rfl rfl rfl (Kd.K_one _ (HS.getN 0 rfl)) (by rw [el112]; kernel_rfl) (by rw [el112]; decide) (splice_all (by rw [el112]; rfl)) (fun w115 HS => ?_)
 dsimp only [List.set] at HS
 refine ad_ hK102 ?_
 clear hK102
 refine sr_ fun _ hK116 => ?_
 refine mv_ ?_
 obtain ⟨q117, H⟩ := if_some H
 refine v_ (Run.binT rfl rfl rfl (bin_addT q117)) ?_
 obtain ⟨t118, ha119, H⟩ := bind_some H
 exact by (
 refine c_ func7 (iRM.runs k (t24.1 ++ (⟨#[120]⟩ : ByteArray)) t118.1 t118.2 _  ha119) ?_
 clear ha119
 rintro _ w120 ⟨cs121, rfl, hf122, hb⟩
 replace HS := HS.newNs hb (foot_cons hf122 foot_nil)
 have el123 : cs121.length = 14 := k33.K_len (Foot.now hf122)
 refine ⟨_, rfl, ?_⟩
 clear hb
 refine mv_ ?_
 refine v_ (Run.extract rfl rfl rfl) ?_
 refine v_ (Run.extract rfl rfl rfl) ?_
 refine WL.alloc HS (v := .agg zz1) (cs := zz1) rfl rfl (by decide) rfl (by kernel_rfl) rfl (fun b124 w125 hb124 HS => ?_)
 refine WL.storeS HS 0 rfl rfl rfl rfl rfl rfl (Kd.K_one _ (HS.getN 0 rfl)) (by rw [el123]; kernel_rfl) (by rw [el123]; decide) (splice_all (by rw [el123]; rfl)) (fun w126 HS => ?_)
 dsimp only [List.set] at HS
 refine ad_ hK116 ?_
 clear hK116
 refine sr_ fun _ hK127 => ?_
 exact by (
 refine mv_ ?_
 refine b_ bin_eql ?_
 refine mv_ ?_
 rcases eti_ H with ⟨c128, H⟩ | ⟨c128, H⟩
 · refine off_ (c' := false) (eF c128) ?_
   refine WL.know 126 (eF c128) ?_
   refine fast_ ?_
   refine via_ hK127 ?_
   clear hK127
   obtain rfl := os H
   exact rt1 Try.f3 rfl rfl hR_ ⟨rfl, HS.b⟩
 refine on_ (eT c128) (mv_ ?_)
 refine on_ (eT c128) (b_ bin_neq ?_)
 refine v_ (Run.pickT rfl rfl (eT c128) rfl) ?_
 refine mv_ ?_
 rcases ite_ H with ⟨c129, H⟩ | ⟨c129, H⟩
 · refine off_ (c' := false) (qF c129) ?_
   exact by (
   refine WL.know 130 (qF c129) ?_
   refine fast_ ?_
   refine via_ hK127 ?_
   clear hK127
   obtain rfl := os H
   exact rt1 Try.f3 rfl rfl hR_ ⟨rfl, HS.b⟩ )
 refine on_ (qT c129) (mv_ ?_)
 refine on_ (qT c129) (b_ bin_neq ?_)
 refine v_ (Run.pickT rfl rfl (qT c129) rfl) ?_
 refine ad_ hK127 ?_
 clear hK127
 obtain rfl := os H
 exact rt1 Try.f3 rfl rfl hR_ ⟨rfl, HS.b⟩ ))))))))))))))))))
def okT5 (x : Int) : Prop := (Lit.int .u8 x).wf = true
theorem opensT5 : XOpen.Opens prog 5 kU okT5 := XOpen.opens_int underlying5
def okT22 (xs : List Int) : Prop := xs.length ≤ 9223372036854775807 ∧ ∀ x ∈ xs, okT5 x
theorem opensT22 : XOpen.Opens prog 22 kS5 okT22 := XOpen.opens_slice underlying22 (by kernel_rfl) opensT5
def laws_FnFiles.Pure : Prop := ∀ (l0 : List Int), okT22 l0 → ∃ k, laws_FnFiles.g k l0 = some true
end Go.Proofs.Ytbdbadkinjbpcaa.PFnFiles
