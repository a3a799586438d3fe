/- Functions that the statement reaches, as Lean functions, and the proof that a call of each comes to just its answer; written by this claim's own program. No conditions. -/
import Derived.Test.YtbdbadkinjbpcaaGFnFiles4
namespace Go.Proofs.Ytbdbadkinjbpcaa.PFnFiles
open Try
open Go.RowKit Go.Proofs.YtbdbadkinjbpcaaW.PrintWords Go.Proofs.YtbdbadkinjbpcaaW.PrintLast Go.Proofs.YtbdbadkinjbpcaaW.PrintMore Go.Proofs.Ytbdbadkinjbpcaa.XW Go.Proofs.Ytbdbadkinjbpcaa.XOp Go.Proofs.Ytbdbadkinjbpcaa.XSt Go.Proofs.Ytbdbadkinjbpcaa.XDraw
set_option linter.unusedVariables false
set_option linter.unusedSimpArgs false
set_option maxHeartbeats 4000000
set_option maxRecDepth 20000
def impl_readHead.b0 (t5 : ByteArray × Bool) (rec_ : Int → Int → Int → Int → Int → Int → (List Int) → Int → (List Int) → Option ((S61 × Bool) ⊕ (Int × Int × Int × Int × Int × Int × (List Int) × Int × (List Int)))) (k84 : Nat) (i59 : Int) (i60 : Int) (i61 : Int) (i62 : Int) (i63 : Int) (i64 : Int) (xs65 : List Int) (i68 : Int) (xs69 : List Int) : Option ((S61 × Bool) ⊕ (Int × Int × Int × Int × Int × Int × (List Int) × Int × (List Int))) := (if i59 < (wrap64 (bt t5.1 4)) then (if 0 ≤ (wrap64 (5 + i59)) ∧ (wrap64 (5 + i59)) < (t5.1.size : Int) then ((impl_isWidth.f (wrap64 (bt t5.1 (wrap64 (5 + i59))))).bind fun t95 => (if t95 = true then (if (xs69.length) < 4294967296 then (rec_ (wrap64 (i59 + 1)) i60 i61 i62 i63 i64 xs65 i68 (xs69 ++ [wrap64 (bt t5.1 (wrap64 (5 + i59)))])) else none) else (some (Sum.inl ((⟨0, 0, 0, 0, 0, [], 0⟩ : S61), false))))) else none) else (some (Sum.inr (i59, i60, i61, i62, i63, i64, xs65, i68, xs69))))
def impl_readHead.l0 (t5 : ByteArray × Bool) : Nat → Int → Int → Int → Int → Int → Int → (List Int) → Int → (List Int) → Option ((S61 × Bool) ⊕ (Int × Int × Int × Int × Int × Int × (List Int) × Int × (List Int)))
 | 0, _, _, _, _, _, _, _, _, _ => none
 | k + 1, i59, i60, i61, i62, i63, i64, xs65, i68, xs69 => impl_readHead.b0 t5 (impl_readHead.l0 t5 k) k i59 i60 i61 i62 i63 i64 xs65 i68 xs69
def impl_readHead.g (k : Nat) (a0 : ByteArray) : Option (S61 × Bool) := ((strings_CutPrefix.f a0 (⟨#[84, 77, 49]⟩ : ByteArray)).bind fun t5 => (if t5.2 = true then (if (t5.1.size : Int) < 5 then (some ((⟨0, 0, 0, 0, 0, [], 0⟩ : S61), false)) else (if (0 : Int) ≤ 0 ∧ 0 < (t5.1.size : Int) then (if (0 : Int) ≤ 1 ∧ 1 < (t5.1.size : Int) then (if (0 : Int) ≤ 2 ∧ 2 < (t5.1.size : Int) then (if (0 : Int) ≤ 3 ∧ 3 < (t5.1.size : Int) then (if (0 : Int) ≤ 4 ∧ 4 < (t5.1.size : Int) then ((impl_isWidth.f (wrap64 (bt t5.1 0))).bind fun t31 => (if t31 = true then ((impl_in.f (wrap64 (bt t5.1 1)) 1 2).bind fun t35 => (if t35 = true then ((impl_in.f (wrap64 (bt t5.1 2)) 4 24).bind fun t39 => (if t39 = true then (if (wrap64 (bt t5.1 3)) > 16 then (some ((⟨0, 0, 0, 0, 0, [], 0⟩ : S61), false)) else ((impl_in.f (wrap64 (bt t5.1 4)) 1 2).bind fun t46 => (if t46 = true then (if (t5.1.size : Int) < (wrap64 (5 + (wrap64 (bt t5.1 4)))) then (some ((⟨0, 0, 0, 0, 0, [], 0⟩ : S61), false)) else ((impl_readHead.l0 t5 k 0 0 0 0 0 0 ([] : List Int) 0 ([] : List Int)).bind (fun oc82 => match oc82 with | .inl r_ => some r_ | .inr ⟨i59, i60, i61, i62, i63, i64, xs65, i68, xs69⟩ => (some ((⟨wrap64 (bt t5.1 0), wrap64 (bt t5.1 1), wrap64 (bt t5.1 2), wrap64 (bt t5.1 3), wrap64 (bt t5.1 4), xs69, wrap64 (8 + (wrap64 (bt t5.1 4)))⟩ : S61), true))))) else (some ((⟨0, 0, 0, 0, 0, [], 0⟩ : S61), false))))) else (some ((⟨0, 0, 0, 0, 0, [], 0⟩ : S61), false)))) else (some ((⟨0, 0, 0, 0, 0, [], 0⟩ : S61), false)))) else (some ((⟨0, 0, 0, 0, 0, [], 0⟩ : S61), false)))) else none) else none) else none) else none) else none)) else (some ((⟨0, 0, 0, 0, 0, [], 0⟩ : S61), false))))
theorem impl_readHead.runs (k : Nat) (a0 : ByteArray) (r1 : S61) (r2 : Bool) (w : World) (H : impl_readHead.g k a0 = some (r1, r2)) :
   Calls prog 23 #[.string a0] w fun e w' => ∃ (A0_5_ : Option Addr) (c0_5_ : Nat), e = .returned (.tuple #[.agg #[vi r1.f0, vi r1.f1, vi r1.f2, vi r1.f3, vi r1.f4, .slice A0_5_ r1.f5.length c0_5_, vi r1.f6], .bool r2]) ∧ r1.f5.length ≤ c0_5_ ∧ Foot (cF kI A0_5_ r1.f5) w' (fun k_ => w.heap.size ≤ k_) ∧ Below w.heap.size w w' := by
 unfold impl_readHead.g at H
 have HS : St (fun _ => True) w w [] [] [] := St.start foot_nil
 refine cw_ (n := 100) func23 fun R_ hR_ => ?_
 refine sr_ fun _ hK1 => ?_
 refine WL.alloc HS (v := .agg #[vi 0, vi 0, vi 0, vi 0, vi 0, sn, vi 0]) (cs := #[vi 0, vi 0, vi 0, vi 0, vi 0, sn, vi 0]) rfl rfl (by decide) rfl (by kernel_rfl) rfl (fun b2 w3 hb2 HS => ?_)
 refine ad_ hK1 ?_
 clear hK1
 refine sr_ fun _ hK4 => ?_
 refine mv_ ?_
 obtain ⟨t5, ha6, H⟩ := bind_some H
 refine cs0_ HS func60 (strings_CutPrefix.calls a0 (⟨#[84, 77, 49]⟩ : ByteArray) t5.1 t5.2 _ ha6) (fun w7 HS => ?_)
 clear ha6
 refine mv_ ?_
 refine v_ (Run.extract rfl rfl rfl) ?_
 refine v_ (Run.extract rfl rfl rfl) ?_
 refine as_ ?_
 exact by (
 refine ad_ hK4 ?_
 clear hK4
 refine WC.seq fun _ hK8 => ?_
 refine sr_ fun _ hK9 => ?_
 refine mv_ ?_
 refine nt_ ?_
 refine mv_ ?_
 rcases eti_ H with ⟨c10, H⟩ | ⟨c10, H⟩
 · refine off_ (c' := true) (nB (bF c10)) ?_
   refine WL.know 16 (nB (bF c10)) ?_
   refine fast_ ?_
   refine via_ hK9 (wy_ rfl ?_)
   clear hK9
   refine sr_ fun _ hK119 => ?_
   refine v_ (Run.build (cells := #[vi 0, vi 0, vi 0, vi 0, vi 0, sn, vi 0]) rfl [] trivial (by kernel_rfl)) ?_
   refine WL.storeW HS 0 rfl rfl rfl rfl rfl rfl (oneL rfl) (by kernel_rfl) rfl (fun w120 HS => ?_)
   exact by (
   dsimp only [List.set] at HS
   refine ad_ hK119 ?_
   clear hK119
   obtain ⟨rfl, rfl⟩ := Prod.mk.inj (os H)
   exact rt2 Try.f23 rfl ⟨_, rfl, resv_box (HS.mu 0 rfl) underlying61 rfl (by kernel_rfl)⟩ rfl hR_ ⟨_, _, rfl, (Nat.le_refl _), (fun W_ _ => Kd.C_nil _ _), HS.b⟩ )
 refine on_ (nB c10) (mv_ ?_)
 refine on_ (nB c10) (v_ (Run.lenStr rfl underlying9 rfl) ?_)
 refine on_ (nB c10) (b_ bin_lss ?_)
 refine v_ (Run.pickF rfl rfl (nB c10) rfl) ?_
 refine dn_ hK9 ?_
 clear hK9
 rcases ite_ H with ⟨c11, H⟩ | ⟨c11, H⟩
 · refine wy_ (dT c11) (sr_ fun _ hK12 => ?_)
   refine v_ (Run.build (cells := #[vi 0, vi 0, vi 0, vi 0, vi 0, sn, vi 0]) rfl [] trivial (by kernel_rfl)) ?_
   refine WL.storeW HS 0 rfl rfl rfl rfl rfl rfl (oneL rfl) (by kernel_rfl) rfl (fun w13 HS => ?_)
   dsimp only [List.set] at HS
   exact by (
   refine ad_ hK12 ?_
   clear hK12
   obtain ⟨rfl, rfl⟩ := Prod.mk.inj (os H)
   exact rt2 Try.f23 rfl ⟨_, rfl, resv_box (HS.mu 0 rfl) underlying61 rfl (by kernel_rfl)⟩ rfl hR_ ⟨_, _, rfl, (Nat.le_refl _), (fun W_ _ => Kd.C_nil _ _), HS.b⟩ )
 refine wn_ (dF c11) (WC.skip (via_ hK8 (WC.seq fun _ hK14 => ?_)))
 clear hK8
 refine WC.drawW HS [boxM b2 #[vi 0, vi 0, vi 0, vi 0, vi 0, sn, vi 0] 61] (fun _ HS => ⟨(HS.mu 0 rfl), trivial⟩) [17] rfl rfl (fun w15 HS => ?_)
 refine dm_ 0 ?_
 obtain ⟨⟨q16, q17⟩, H⟩ := if_some H
 refine dp_ 1 (fun _ => Run.strIndex rfl underlying9 rfl rfl q16 q17) ?_
 refine dp_ 2 (fun _ => Run.conv64 rfl underlying5 underlying3 rfl) ?_
 refine dm_ 3 ?_
 obtain ⟨⟨q18, q19⟩, H⟩ := if_some H
 refine dp_ 4 (fun _ => Run.strIndex rfl underlying9 rfl rfl q18 q19) ?_
 refine dp_ 5 (fun _ => Run.conv64 rfl underlying5 underlying3 rfl) ?_
 refine dm_ 6 ?_
 exact by (
 obtain ⟨⟨q20, q21⟩, H⟩ := if_some H
 refine dp_ 7 (fun _ => Run.strIndex rfl underlying9 rfl rfl q20 q21) ?_
 refine dp_ 8 (fun _ => Run.conv64 rfl underlying5 underlying3 rfl) ?_
 refine dm_ 9 ?_
 obtain ⟨⟨q22, q23⟩, H⟩ := if_some H
 refine dp_ 10 (fun _ => Run.strIndex rfl underlying9 rfl rfl q22 q23) ?_
 refine dp_ 11 (fun _ => Run.conv64 rfl underlying5 underlying3 rfl) ?_
 refine dm_ 12 ?_
 obtain ⟨⟨q24, q25⟩, H⟩ := if_some H
 refine dp_ 13 (fun _ => Run.strIndex rfl underlying9 rfl rfl q24 q25) ?_
 refine dp_ 14 (fun _ => Run.conv64 rfl underlying5 underlying3 rfl) ?_
 refine db_ 15 [(0, vi (wrap64 (bt t5.1 0))), (1, vi (wrap64 (bt t5.1 1))), (2, vi (wrap64 (bt t5.1 2))), (3, vi (wrap64 (bt t5.1 3))), (4, vi (wrap64 (bt t5.1 4)))] (cells := #[vi (wrap64 (bt t5.1 0)), vi (wrap64 (bt t5.1 1)), vi (wrap64 (bt t5.1 2)), vi (wrap64 (bt t5.1 3)), vi (wrap64 (bt t5.1 4)), sn, vi 0]) rfl rfl ⟨⟨rfl, rfl⟩, ⟨⟨rfl, rfl⟩, ⟨⟨rfl, rfl⟩, ⟨⟨rfl, rfl⟩, ⟨⟨rfl, rfl⟩, trivial⟩⟩⟩⟩⟩ (by kernel_rfl) ?_
 refine WD.alloc (v := .agg #[vi 0, vi 0, vi 0, vi 0, vi 0, sn, vi 0]) (cs := #[vi 0, vi 0, vi 0, vi 0, vi 0, sn, vi 0]) 16 (w_none rfl) HS rfl (by kernel_rfl) rfl (fun b26 w27 hb26 HS => ?_)
 refine ⟨⟨HS.nowO, HS.nowN, ⟨(HS.mu 1 rfl), trivial⟩⟩, ?_⟩
 refine WD.storeSL 17 HS 0 rfl rfl rfl rfl (oneL rfl) (by kernel_rfl) (ble_ rfl) (cs' := #[vi (wrap64 (bt t5.1 0)), vi (wrap64 (bt t5.1 1)), vi (wrap64 (bt t5.1 2)), vi (wrap64 (bt t5.1 3)), vi (wrap64 (bt t5.1 4)), sn, vi 0]) (by kernel_rfl) (fun w28 HS => ?_)
 dsimp only [List.set] at HS
 exact by (
 refine dd_ (via_ hK14 (WC.seq fun _ hK29 => ?_))
 clear hK14
 refine sr_ fun _ hK30 => ?_
 refine v_ (fa_ underlying61) ?_
 refine v_ (lb_ (HS.mu 0 rfl) underlying3 rfl) ?_
 obtain ⟨t31, ha32, H⟩ := bind_some H
 refine cs0_ HS func44 (impl_isWidth.calls (wrap64 (bt t5.1 0)) t31 _ ha32) (fun w33 HS => ?_)
 clear ha32
 refine nt_ ?_
 refine mv_ ?_
 rcases eti_ H with ⟨c34, H⟩ | ⟨c34, H⟩
 · refine off_ (c' := true) (nB (bF c34)) ?_
   refine WL.know 42 (nB (bF c34)) ?_
   refine fast_ ?_
   refine via_ hK30 (wy_ rfl ?_)
   clear hK30
   exact by (
   refine sr_ fun _ hK117 => ?_
   refine v_ (Run.build (cells := #[vi 0, vi 0, vi 0, vi 0, vi 0, sn, vi 0]) rfl [] trivial (by kernel_rfl)) ?_
   refine WL.storeW HS 1 rfl rfl rfl rfl rfl rfl (oneL rfl) (by kernel_rfl) rfl (fun w118 HS => ?_)
   dsimp only [List.set] at HS
   refine ad_ hK117 ?_
   clear hK117
   obtain ⟨rfl, rfl⟩ := Prod.mk.inj (os H)
   exact rt2 Try.f23 rfl ⟨_, rfl, resv_box (HS.mu 1 rfl) underlying61 rfl (by kernel_rfl)⟩ rfl hR_ ⟨_, _, rfl, (Nat.le_refl _), (fun W_ _ => Kd.C_nil _ _), HS.b⟩ )
 refine on_ (nB c34) (v_ (fa_ underlying61) ?_)
 refine on_ (nB c34) (v_ (lb_ (HS.mu 0 rfl) underlying3 rfl) ?_)
 refine on_ (nB c34) ?_
 obtain ⟨t35, ha36, H⟩ := bind_some H
 refine cs0_ HS func45 (impl_in.calls (wrap64 (bt t5.1 1)) 1 2 t35 _ ha36) (fun w37 HS => ?_)
 clear ha36
 refine on_ (nB c34) (nt_ ?_)
 refine v_ (Run.pickF rfl rfl (nB c34) rfl) ?_
 exact by (
 refine mv_ ?_
 rcases eti_ H with ⟨c38, H⟩ | ⟨c38, H⟩
 · refine off_ (c' := true) (nB (bF c38)) ?_
   refine WL.know 48 (nB (bF c38)) ?_
   refine fast_ ?_
   refine via_ hK30 (wy_ rfl ?_)
   clear hK30
   refine sr_ fun _ hK115 => ?_
   refine v_ (Run.build (cells := #[vi 0, vi 0, vi 0, vi 0, vi 0, sn, vi 0]) rfl [] trivial (by kernel_rfl)) ?_
   refine WL.storeW HS 1 rfl rfl rfl rfl rfl rfl (oneL rfl) (by kernel_rfl) rfl (fun w116 HS => ?_)
   dsimp only [List.set] at HS
   refine ad_ hK115 ?_
   clear hK115
   obtain ⟨rfl, rfl⟩ := Prod.mk.inj (os H)
   exact rt2 Try.f23 rfl ⟨_, rfl, resv_box (HS.mu 1 rfl) underlying61 rfl (by kernel_rfl)⟩ rfl hR_ ⟨_, _, rfl, (Nat.le_refl _), (fun W_ _ => Kd.C_nil _ _), HS.b⟩
 refine on_ (nB c38) (v_ (fa_ underlying61) ?_)
 exact by (
 refine on_ (nB c38) (v_ (lb_ (HS.mu 0 rfl) underlying3 rfl) ?_)
 refine on_ (nB c38) ?_
 obtain ⟨t39, ha40, H⟩ := bind_some H
 refine cs0_ HS func45 (impl_in.calls (wrap64 (bt t5.1 2)) 4 24 t39 _ ha40) (fun w41 HS => ?_)
 clear ha40
 refine on_ (nB c38) (nt_ ?_)
 refine v_ (Run.pickF rfl rfl (nB c38) rfl) ?_
 refine mv_ ?_
 rcases eti_ H with ⟨c42, H⟩ | ⟨c42, H⟩
 · refine off_ (c' := true) (nB (bF c42)) ?_
   refine WL.know 54 (nB (bF c42)) ?_
   refine fast_ ?_
   refine via_ hK30 (wy_ rfl ?_)
   clear hK30
   refine sr_ fun _ hK113 => ?_
   refine v_ (Run.build (cells := #[vi 0, vi 0, vi 0, vi 0, vi 0, sn, vi 0]) rfl [] trivial (by kernel_rfl)) ?_
   exact by (
   refine WL.storeW HS 1 rfl rfl rfl rfl rfl rfl (oneL rfl) (by kernel_rfl) rfl (fun w114 HS => ?_)
   dsimp only [List.set] at HS
   refine ad_ hK113 ?_
   clear hK113
   obtain ⟨rfl, rfl⟩ := Prod.mk.inj (os H)
   exact rt2 Try.f23 rfl ⟨_, rfl, resv_box (HS.mu 1 rfl) underlying61 rfl (by kernel_rfl)⟩ rfl hR_ ⟨_, _, rfl, (Nat.le_refl _), (fun W_ _ => Kd.C_nil _ _), HS.b⟩ )
 refine on_ (nB c42) (v_ (fa_ underlying61) ?_)
 refine on_ (nB c42) (v_ (lb_ (HS.mu 0 rfl) underlying3 rfl) ?_)
 refine on_ (nB c42) (b_ bin_gtr ?_)
 refine v_ (Run.pickF rfl rfl (nB c42) rfl) ?_
 refine mv_ ?_
 rcases ite_ H with ⟨c43, H⟩ | ⟨c43, H⟩
 · refine off_ (c' := true) (dT c43) ?_
   refine WL.know 59 (dT c43) ?_
   refine fast_ ?_
   refine via_ hK30 (wy_ rfl ?_)
   exact by (
   clear hK30
   refine sr_ fun _ hK44 => ?_
   refine v_ (Run.build (cells := #[vi 0, vi 0, vi 0, vi 0, vi 0, sn, vi 0]) rfl [] trivial (by kernel_rfl)) ?_
   refine WL.storeW HS 1 rfl rfl rfl rfl rfl rfl (oneL rfl) (by kernel_rfl) rfl (fun w45 HS => ?_)
   dsimp only [List.set] at HS
   refine ad_ hK44 ?_
   clear hK44
   obtain ⟨rfl, rfl⟩ := Prod.mk.inj (os H)
   exact rt2 Try.f23 rfl ⟨_, rfl, resv_box (HS.mu 1 rfl) underlying61 rfl (by kernel_rfl)⟩ rfl hR_ ⟨_, _, rfl, (Nat.le_refl _), (fun W_ _ => Kd.C_nil _ _), HS.b⟩ )
 refine on_ (dF c43) (v_ (fa_ underlying61) ?_)
 refine on_ (dF c43) (v_ (lb_ (HS.mu 0 rfl) underlying3 rfl) ?_)
 refine on_ (dF c43) ?_
 obtain ⟨t46, ha47, H⟩ := bind_some H
 refine cs0_ HS func45 (impl_in.calls (wrap64 (bt t5.1 4)) 1 2 t46 _ ha47) (fun w48 HS => ?_)
 clear ha47
 refine on_ (dF c43) (nt_ ?_)
 exact by (
 refine v_ (Run.pickF rfl rfl (dF c43) rfl) ?_
 refine mv_ ?_
 rcases eti_ H with ⟨c49, H⟩ | ⟨c49, H⟩
 · refine off_ (c' := true) (nB (bF c49)) ?_
   refine WL.know 65 (nB (bF c49)) ?_
   refine fast_ ?_
   refine via_ hK30 (wy_ rfl ?_)
   clear hK30
   refine sr_ fun _ hK111 => ?_
   refine v_ (Run.build (cells := #[vi 0, vi 0, vi 0, vi 0, vi 0, sn, vi 0]) rfl [] trivial (by kernel_rfl)) ?_
   refine WL.storeW HS 1 rfl rfl rfl rfl rfl rfl (oneL rfl) (by kernel_rfl) rfl (fun w112 HS => ?_)
   dsimp only [List.set] at HS
   refine ad_ hK111 ?_
   clear hK111
   obtain ⟨rfl, rfl⟩ := Prod.mk.inj (os H)
   exact rt2 Try.f23 rfl ⟨_, rfl, resv_box (HS.mu 1 rfl) underlying61 rfl (by kernel_rfl)⟩ rfl hR_ ⟨_, _, rfl, (Nat.le_refl _), (fun W_ _ => Kd.C_nil _ _), HS.b⟩
 exact by (
 refine on_ (nB c49) (mv_ ?_)
 refine on_ (nB c49) (v_ (Run.lenStr rfl underlying9 rfl) ?_)
 refine on_ (nB c49) (v_ (fa_ underlying61) ?_)
 refine on_ (nB c49) (v_ (lb_ (HS.mu 0 rfl) underlying3 rfl) ?_)
 refine on_ (nB c49) (b_ bin_add64 ?_)
 refine on_ (nB c49) (b_ bin_lss ?_)
 refine v_ (Run.pickF rfl rfl (nB c49) rfl) ?_
 refine dn_ hK30 ?_
 clear hK30
 rcases ite_ H with ⟨c50, H⟩ | ⟨c50, H⟩
 · refine wy_ (dT c50) (sr_ fun _ hK51 => ?_)
   refine v_ (Run.build (cells := #[vi 0, vi 0, vi 0, vi 0, vi 0, sn, vi 0]) rfl [] trivial (by kernel_rfl)) ?_
   refine WL.storeW HS 1 rfl rfl rfl rfl rfl rfl (oneL rfl) (by kernel_rfl) rfl (fun w52 HS => ?_)
   dsimp only [List.set] at HS
   refine ad_ hK51 ?_
   clear hK51
   obtain ⟨rfl, rfl⟩ := Prod.mk.inj (os H)
   exact rt2 Try.f23 rfl ⟨_, rfl, resv_box (HS.mu 1 rfl) underlying61 rfl (by kernel_rfl)⟩ rfl hR_ ⟨_, _, rfl, (Nat.le_refl _), (fun W_ _ => Kd.C_nil _ _), HS.b⟩
 exact by (
 refine wn_ (dF c50) (WC.skip (via_ hK29 (WC.seq fun K53 hK53 => ?_)))
 clear hK29
 refine sr_ fun _ hK54 => ?_
 refine v_ (fa_ underlying61) ?_
 refine v_ (lb_ (HS.mu 0 rfl) underlying3 rfl) ?_
 refine mv_ ?_
 refine dn_ hK54 (WC.block ?_)
 clear hK54
 replace HS := HS.rowNil 3 1
 replace HS := HS.deriveN (p := (rF kI ([] : List Int) [])) (fun _ _ => Reps.none _ _)
 replace HS := HS.rowNil 3 1
 replace HS := HS.deriveN (p := (rF kI ([] : List Int) [])) (fun _ _ => Reps.none _ _)
 obtain ⟨G55, hG56, oc57, H, Ho58⟩ := open_G H
 let J72 := fun (i59 : Int) (i60 : Int) (i61 : Int) (i62 : Int) (i63 : Int) (i64 : Int) (xs65 : List Int) v66 I67 (i68 : Int) (xs69 : List Int) v70 I71 (E_ : Env) (W_ : World) => E_ = [(2, .pointer (some ⟨b2, 0, none⟩)), (4, .string t5.1), (6, .pointer (some ⟨b26, 0, none⟩)), (75, vi (wrap64 (bt t5.1 4))), (76, vi i59)] ∧ St (fun _ => True) w W_ [rowM w.heap.size 3 1 v70 xs69.length I71, rowM w.heap.size 3 1 v66 xs65.length I67, boxM b26 #[vi (wrap64 (bt t5.1 0)), vi (wrap64 (bt t5.1 1)), vi (wrap64 (bt t5.1 2)), vi (wrap64 (bt t5.1 3)), vi (wrap64 (bt t5.1 4)), v70, vi 0] 61, boxM b2 #[vi i60, vi i61, vi i62, vi i63, vi i64, v66, vi i68] 61] [] [(rF kI xs69 I71), (rF kI xs65 I67)]
 have X73 : ∀ E_ W_, (∃ i59 i60 i61 i62 i63 i64 xs65 v66 I67 i68 xs69 v70 I71, G55 (Sum.inr (i59, i60, i61, i62, i63, i64, xs65, i68, xs69)) = some (r1, r2) ∧ J72 i59 i60 i61 i62 i63 i64 xs65 v66 I67 i68 xs69 v70 I71 E_ W_) → ∀ a, Fits a 100 E_ → K53 a W_ := by
   rintro E_ w74 ⟨i59, i60, i61, i62, i63, i64, xs65, v66, I67, i68, xs69, v70, I71, H, rfl, HS⟩
   exact by (
   rw [hG56] at H
   (try dsimp only at H)
   refine hK53 _ _ ?_
   clear hK53
   refine sr_ fun _ hK75 => ?_
   refine v_ (fa_ underlying61) ?_
   refine v_ (lb_ (HS.mu 2 rfl) underlying3 rfl) ?_
   refine b_ bin_add64 ?_
   refine v_ (fa_ underlying61) ?_
   refine WL.store HS 2 rfl rfl rfl rfl rfl rfl rfl (by kernel_rfl) (ble_ rfl) (cs' := #[vi (wrap64 (bt t5.1 0)), vi (wrap64 (bt t5.1 1)), vi (wrap64 (bt t5.1 2)), vi (wrap64 (bt t5.1 3)), vi (wrap64 (bt t5.1 4)), v70, vi (wrap64 (8 + (wrap64 (bt t5.1 4))))]) (by kernel_rfl) (fun w76 HS => ?_)
   dsimp only [List.set] at HS
   refine dn_ hK75 (sr_ fun _ hK77 => ?_)
   clear hK75
   obtain ⟨A78, c79, rfl⟩ := row_slice (HS.mu 0 rfl)
   refine v_ (ls_ (HS.mu 2 rfl) underlying61 part_all) ?_
   refine WL.storeW HS 3 rfl rfl rfl rfl rfl rfl (oneL rfl) (by kernel_rfl) rfl (fun w80 HS => ?_)
   exact by (
   dsimp only [List.set] at HS
   refine ad_ hK77 ?_
   clear hK77
   refine WC.ret ?_
   have le81 := row_le (HS.mu 0 rfl)
   replace HS := HS.freezeN 0 (p := (cF kI A78 (xs69))) rfl (fun W_ hm_ h_ => row_C (by rfl) hm_ h_.1)
   dsimp only [List.eraseIdx] at HS
   obtain ⟨rfl, rfl⟩ := Prod.mk.inj (os H)
   exact fin2 Try.f23 rfl ⟨_, rfl, resv_box (HS.mu 2 rfl) underlying61 rfl (by kernel_rfl)⟩ rfl hR_ ⟨_, _, rfl, le81, (foot_fresh (HS.footN 0 rfl)), HS.b⟩ ))
 clear hK53
 refine WC.loop (fun k_ E_ W_ => ∃ i59 i60 i61 i62 i63 i64 xs65 v66 I67 i68 xs69 v70 I71, (∃ o_, impl_readHead.l0 t5 k_ i59 i60 i61 i62 i63 i64 xs65 i68 xs69 = some o_ ∧ G55 o_ = some (r1, r2)) ∧ J72 i59 i60 i61 i62 i63 i64 xs65 v66 I67 i68 xs69 v70 I71 E_ W_) k ⟨0, 0, 0, 0, 0, 0, ([] : List Int), (sn), ([]), 0, ([] : List Int), (sn), ([]), ⟨_, H, Ho58⟩, rfl, HS⟩ (sb rfl) ?_
 rintro k_ E_ w83 ⟨i59, i60, i61, i62, i63, i64, xs65, v66, I67, i68, xs69, v70, I71, ⟨oc57, H, Ho58⟩, rfl, HS⟩
 rcases k_ with _ | k84
 · exact no_ H
 replace H : impl_readHead.b0 t5 (impl_readHead.l0 t5 k84) k84 i59 i60 i61 i62 i63 i64 xs65 i68 xs69 = some oc57 := H
 unfold impl_readHead.b0 at H
 exact by (
 refine sr_ fun _ hK85 => ?_
 refine b_ bin_lss ?_
 refine dn_ hK85 (WC.seq fun _ hK86 => ?_)
 clear hK85
 rcases eti_ H with ⟨c87, H⟩ | ⟨c87, H⟩
 · refine wn_ (dF c87) (WC.exit ?_)
   obtain rfl := os H
   exact wv_ iq X73 ⟨i59, i60, i61, i62, i63, i64, xs65, v66, I67, i68, xs69, v70, I71, Ho58, rfl, HS⟩
 refine wy_ (dT c87) (WC.skip (via_ hK86 (WC.seq fun _ hK88 => ?_)))
 clear hK86
 refine WC.block (sr_ fun _ hK89 => ?_)
 refine mv_ ?_
 refine ad_ hK89 ?_
 clear hK89
 refine sr_ fun _ hK90 => ?_
 refine mv_ ?_
 exact by (
 refine mv_ ?_
 refine b_ bin_add64 ?_
 obtain ⟨⟨q91, q92⟩, H⟩ := if_some H
 refine v_ (Run.strIndex rfl underlying9 rfl rfl q91 q92) ?_
 refine v_ (Run.conv64 rfl underlying5 underlying3 rfl) ?_
 refine ad_ hK90 ?_
 clear hK90
 refine WC.seq fun _ hK93 => ?_
 refine sr_ fun _ hK94 => ?_
 refine mv_ ?_
 obtain ⟨t95, ha96, H⟩ := bind_some H
 refine cs0_ HS func44 (impl_isWidth.calls (wrap64 (bt t5.1 (wrap64 (5 + i59)))) t95 _ ha96) (fun w97 HS => ?_)
 clear ha96
 refine nt_ ?_
 refine dn_ hK94 ?_
 clear hK94
 exact by (
 rcases eti_ H with ⟨c98, H⟩ | ⟨c98, H⟩
 · refine wy_ (nB (bF c98)) (sr_ fun _ hK109 => ?_)
   refine v_ (Run.build (cells := #[vi 0, vi 0, vi 0, vi 0, vi 0, sn, vi 0]) rfl [] trivial (by kernel_rfl)) ?_
   refine WL.storeW HS 3 rfl rfl rfl rfl rfl rfl (oneL rfl) (by kernel_rfl) rfl (fun w110 HS => ?_)
   dsimp only [List.set] at HS
   refine ad_ hK109 ?_
   clear hK109
   refine WC.ret ?_
   obtain rfl := os H
   rw [hG56] at Ho58
   replace H : some _ = some _ := Ho58
   obtain ⟨rfl, rfl⟩ := Prod.mk.inj (os H)
   exact fin2 Try.f23 rfl ⟨_, rfl, resv_box (HS.mu 3 rfl) underlying61 rfl (by kernel_rfl)⟩ rfl hR_ ⟨_, _, rfl, (Nat.le_refl _), (fun W_ _ => Kd.C_nil _ _), HS.b⟩
 refine wn_ (nB c98) (WC.skip (via_ hK93 (rg_ (v_ (fa_ underlying61) ?_))))
 clear hK93
 obtain ⟨A99, c100, rfl⟩ := row_slice (HS.mu 0 rfl)
 exact by (
 refine v_ (lb_ (HS.mu 2 rfl) underlying27 rfl) ?_
 refine mv_ ?_
 refine WL.val rfl rfl (by decide) (Run.lit1 (z := (vi 0)) (vs := [vi (wrap64 (bt t5.1 (wrap64 (5 + i59))))]) rfl rfl rfl underlying27 (by kernel_rfl) (ble_ rfl) (ble_ rfl)) ?_
 have HS1 := HS.below (below_alloc (Below.refl _ _) (.cells #[vi (wrap64 (bt t5.1 (wrap64 (5 + i59))))] 3))
 obtain ⟨q101, H⟩ := if_some H
 refine WL.append HS1 0 rfl rfl rfl (by decide) rfl (vi 0) 8 underlying27 (by kernel_rfl) rfl (by decide) (by decide) rfl rfl [vi (wrap64 (bt t5.1 (wrap64 (5 + i59))))] rfl (lit_news _ _ _) (oneL rfl) (by omega) ((xs69 ++ [wrap64 (bt t5.1 (wrap64 (5 + i59)))]).length) (by simp) (fun v102 w103 I104 hI105 HS => ?_)
 dsimp only [List.set] at HS
 replace HS := HS.deriveN (p := (rF kI (xs69 ++ [wrap64 (bt t5.1 (wrap64 (5 + i59)))]) I104)) (fun W_ hN_ => reps_snoc hI105 hN_.1 (K_int _))
 clear HS1
 refine v_ (fa_ underlying61) ?_
 obtain ⟨A107, c108, rfl⟩ := row_slice (HS.mu 0 rfl)
 refine WL.store HS 2 rfl rfl rfl rfl rfl rfl rfl (by kernel_rfl) (ble_ rfl) (cs' := #[vi (wrap64 (bt t5.1 0)), vi (wrap64 (bt t5.1 1)), vi (wrap64 (bt t5.1 2)), vi (wrap64 (bt t5.1 3)), vi (wrap64 (bt t5.1 4)), (.slice A107 ((xs69 ++ [wrap64 (bt t5.1 (wrap64 (5 + i59)))]).length) c108), vi 0]) (by kernel_rfl) (fun w106 HS => ?_)
 dsimp only [List.set] at HS
 refine dn_ hK88 (rg_ (b_ bin_add64 ?_))
 clear hK88
 refine mv_ ?_
 exact by (
 refine WL.done ?_
 exact wr_ k84 iq ⟨(wrap64 (i59 + 1)), i60, i61, i62, i63, i64, xs65, v66, I67, i68, (xs69 ++ [wrap64 (bt t5.1 (wrap64 (5 + i59)))]), (.slice A107 ((xs69 ++ [wrap64 (bt t5.1 (wrap64 (5 + i59)))]).length) c108), I104, ⟨_, H, Ho58⟩, rfl, (St.pk HS [] [0, 2] rfl rfl)⟩ )))))))))))))
def iwide1.b0 (x0 : S67) (a1 : Int) (rec_ : Int → Int → Int → Option (Int × Int × Int)) (k18 : Nat) (i9 : Int) (i10 : Int) (i11 : Int) : Option (Int × Int × Int) := (if i10 < a1 then (if 0 ≤ i11 ∧ i11 < (x0.f0.size : Int) then (rec_ (Go.bits .or .i64 (IntKind.i64.wrap (i9 * 256)) (wrap64 (bt x0.f0 i11))) (wrap64 (i10 + 1)) (wrap64 (i11 + 1))) else none) else (some (i9, i10, i11)))
def iwide1.l0 (x0 : S67) (a1 : Int) : Nat → Int → Int → Int → Option (Int × Int × Int)
 | 0, _, _, _ => none
 | k + 1, i9, i10, i11 => iwide1.b0 x0 a1 (iwide1.l0 x0 a1 k) k i9 i10 i11
def iwide1.g (k : Nat) (x0 : S67) (a1 : Int) : Option (Int × S67) := ((iwide1.l0 x0 a1 k 0 0 x0.f1).bind (fun oc16 => (some (oc16.1, (⟨x0.f0, oc16.2.2, x0.f2⟩ : S67)))))
theorem iwide1.runs (k : Nat) (b0 : Nat) (x0 : S67) (a1 : Int) (bs_ : List Nat) (r1 : Int) (y_ : S67) (w0 w : World) (hB_ : Below w0.heap.size w0 w) (hn_ : (b0 :: bs_).Nodup) (hl_ : ∀ k, k ∈ b0 :: bs_ → w0.heap.size ≤ k ∧ k < w.heap.size) (hb0 : w.heap[b0]? = some (.cells #[.string x0.f0, vi x0.f1, .bool x0.f2] 67 (0, 0))) (H : iwide1.g k x0 a1 = some (r1, y_)) :
   Calls prog 63 #[.pointer (some ⟨b0, 0, none⟩), vi a1] w fun e w' => e = .returned (vi r1) ∧ w'.heap[b0]? = some (.cells #[.string y_.f0, vi y_.f1, .bool y_.f2] 67 (0, 0)) ∧ RestOf w w' b0 ∧ Below w0.heap.size w0 w' := by
 unfold iwide1.g at H
 have HS : St (fun _ => True) w0 w [boxM b0 #[.string x0.f0, vi x0.f1, .bool x0.f2] 67, keepM w bs_] [(frameF w b0 bs_)] [] := St.startM hB_ hn_ hl_ hb0 foot_nil
 refine cw_ (n := 31) func63 fun R_ hR_ => ?_
 refine sr_ fun _ hK1 => ?_
 refine ad_ hK1 ?_
 refine sr_ fun _ hK2 => ?_
 refine ad_ hK2 ?_
 refine WC.seq fun K3 hK3 => ?_
 refine sr_ fun _ hK4 => ?_
 refine mv_ ?_
 refine mv_ ?_
 refine dn_ hK4 (WC.block ?_)
 obtain ⟨G5, hG6, oc7, H, Ho8⟩ := open_G H
 let J12 := fun (i9 : Int) (i10 : Int) (i11 : Int) (E_ : Env) (W_ : World) => E_ = [(0, .pointer (some ⟨b0, 0, none⟩)), (5, vi i9), (6, vi a1), (7, vi i10)] ∧ St (fun _ => True) w0 W_ [boxM b0 #[.string x0.f0, vi i11, .bool x0.f2] 67, keepM w bs_] [(frameF w b0 bs_)] []
 have X13 : ∀ E_ W_, (∃ i9 i10 i11, G5 (i9, i10, i11) = some (r1, y_) ∧ J12 i9 i10 i11 E_ W_) → ∀ a, Fits a 31 E_ → K3 a W_ := by
   rintro E_ w14 ⟨i9, i10, i11, H, rfl, HS⟩
   rw [hG6] at H
   (try dsimp only at H)
   refine hK3 _ _ ?_
   refine sr_ fun _ hK15 => ?_
   refine mv_ ?_
   refine ad_ hK15 ?_
   refine WC.ret ?_
   obtain ⟨rfl, rfl⟩ := Prod.mk.inj (os H)
   have HSf := HS
   exact fin1 Try.f63 rfl rfl hR_ ⟨rfl, (HSf.mu 0 rfl), (rest_of (HSf.getO 0 rfl) (HSf.mu 1 rfl)), HSf.b⟩
 clear hK3
 refine WC.loop (fun k_ E_ W_ => ∃ i9 i10 i11, (∃ o_, iwide1.l0 x0 a1 k_ i9 i10 i11 = some o_ ∧ G5 o_ = some (r1, y_)) ∧ J12 i9 i10 i11 E_ W_) k ⟨0, 0, x0.f1, ⟨_, H, Ho8⟩, rfl, HS⟩ (sb rfl) ?_
 rintro k_ E_ w17 ⟨i9, i10, i11, ⟨oc7, H, Ho8⟩, rfl, HS⟩
 rcases k_ with _ | k18
 · exact no_ H
 replace H : iwide1.b0 x0 a1 (iwide1.l0 x0 a1 k18) k18 i9 i10 i11 = some oc7 := H
 unfold iwide1.b0 at H
 refine sr_ fun _ hK19 => ?_
 refine b_ bin_lss ?_
 refine dn_ hK19 (WC.seq fun _ hK20 => ?_)
 rcases eti_ H with ⟨c21, H⟩ | ⟨c21, H⟩
 · refine wn_ (dF c21) (WC.exit ?_)
   obtain rfl := os H
   exact wv_ iq X13 ⟨i9, i10, i11, Ho8, rfl, HS⟩
 refine wy_ (dT c21) (WC.skip (via_ hK20 (WC.seq fun _ hK22 => ?_)))
 refine WC.block (WC.seq fun _ hK23 => ?_)
 refine WC.drawS HS [] rfl rfl (fun w24 HS => ?_)
 have HB := Below.refl w24.heap.size w24
 have HSW := HS
 refine dm_ 0 ?_
 refine dp_ 1 (fun _ => Run.shl (k := .i64) (j := 8) rfl rfl rfl 256 (by decide) (by decide)) ?_
 refine dm_ 2 ?_
 refine dp_ 3 (fun _ => Run.nilCheck rfl rfl) ?_
 refine df_ 4 underlying67 ?_
 refine dm_ 6 ?_
 refine dp_ 7 (fun _ => Run.nilCheck rfl rfl) ?_
 refine df_ 8 underlying67 ?_
 refine bl_ 5 HS (Below.refl _ _) 0 underlying9 rfl ?_
 refine bl_ 9 HS (Below.refl _ _) 0 underlying3 rfl ?_
 obtain ⟨⟨q25, q26⟩, H⟩ := if_some H
 refine dp_ 10 (fun _ => Run.strIndex rfl underlying9 rfl rfl q25 q26) ?_
 refine dp_ 11 (fun _ => Run.conv64 rfl underlying5 underlying3 rfl) ?_
 refine dp_ 12 (fun _ => Run.bin rfl rfl rfl bin_or) ?_
 refine dp_ 13 (fun _ => Run.assign rfl rfl) ?_
 refine dd_ ?_
 clear HB HSW
 refine via_ hK23 (rg_ (mv_ ?_))
 refine v_ (Run.nilCheck rfl rfl) ?_
 refine v_ (fa_ underlying67) ?_
 refine v_ (lb_ (HS.mu 0 rfl) underlying3 rfl) ?_
 refine b_ bin_add64 ?_
 refine v_ (Run.nilCheck rfl rfl) ?_
 refine v_ (fa_ underlying67) ?_
 refine WL.store HS 0 rfl rfl rfl rfl rfl rfl rfl (by kernel_rfl) (ble_ rfl) (cs' := #[.string x0.f0, vi (wrap64 (i11 + 1)), .bool x0.f2]) (by kernel_rfl) (fun w27 HS => ?_)
 dsimp only [List.set] at HS
 refine dn_ hK22 (rg_ (b_ bin_add64 ?_))
 refine mv_ ?_
 refine WL.done ?_
 exact wr_ k18 iq ⟨(Go.bits .or .i64 (IntKind.i64.wrap (i9 * 256)) (wrap64 (bt x0.f0 i11))), (wrap64 (i10 + 1)), (wrap64 (i11 + 1)), ⟨_, H, Ho8⟩, rfl, HS⟩
def ilist.b0 (a1 : Int) (a2 : Int) (a3 : Int) (rec_ : (List Int) → Int → ByteArray → Int → Bool → Option ((List Int) × Int × ByteArray × Int × Bool)) (k25 : Nat) (xs9 : List Int) (i12 : Int) (s13 : ByteArray) (i14 : Int) (u15 : Bool) : Option ((List Int) × Int × ByteArray × Int × Bool) := (if i12 < a1 then ((iwide1.g k25 (⟨s13, i14, u15⟩ : S67) a2).bind fun t30 => (if (xs9.length) < 4294967296 then (rec_ (xs9 ++ [wrap64 (t30.1 - a3)]) (wrap64 (i12 + 1)) t30.2.f0 t30.2.f1 t30.2.f2) else none)) else (some (xs9, i12, s13, i14, u15)))
def ilist.l0 (a1 : Int) (a2 : Int) (a3 : Int) : Nat → (List Int) → Int → ByteArray → Int → Bool → Option ((List Int) × Int × ByteArray × Int × Bool)
 | 0, _, _, _, _, _ => none
 | k + 1, xs9, i12, s13, i14, u15 => ilist.b0 a1 a2 a3 (ilist.l0 a1 a2 a3 k) k xs9 i12 s13 i14 u15
def ilist.g (k : Nat) (x0 : S67) (a1 : Int) (a2 : Int) (a3 : Int) : Option ((List Int) × S67) := ((ilist.l0 a1 a2 a3 k ([] : List Int) 0 x0.f0 x0.f1 x0.f2).bind (fun oc23 => (some (oc23.1, (⟨oc23.2.2.1, oc23.2.2.2.1, oc23.2.2.2.2⟩ : S67)))))
theorem ilist.runs (k : Nat) (b0 : Nat) (x0 : S67) (a1 : Int) (a2 : Int) (a3 : Int) (bs_ : List Nat) (r1 : List Int) (y_ : S67) (w0 w : World) (hB_ : Below w0.heap.size w0 w) (hn_ : (b0 :: bs_).Nodup) (hl_ : ∀ k, k ∈ b0 :: bs_ → w0.heap.size ≤ k ∧ k < w.heap.size) (hb0 : w.heap[b0]? = some (.cells #[.string x0.f0, vi x0.f1, .bool x0.f2] 67 (0, 0))) (H : ilist.g k x0 a1 a2 a3 = some (r1, y_)) :
   Calls prog 64 #[.pointer (some ⟨b0, 0, none⟩), vi a1, vi a2, vi a3] w fun e w' => ∃ (A0_ : Option Addr) (c0_ : Nat), e = .returned (.slice A0_ r1.length c0_) ∧ r1.length ≤ c0_ ∧ Foot (cF kI A0_ r1) w' (fun k_ => w0.heap.size ≤ k_ ∧ k_ ∉ b0 :: bs_) ∧ w'.heap[b0]? = some (.cells #[.string y_.f0, vi y_.f1, .bool y_.f2] 67 (0, 0)) ∧ RestOf w w' b0 ∧ Below w0.heap.size w0 w' := by
 unfold ilist.g at H
 have HS : St (fun _ => True) w0 w [boxM b0 #[.string x0.f0, vi x0.f1, .bool x0.f2] 67, keepM w bs_] [(frameF w b0 bs_)] [] := St.startM hB_ hn_ hl_ hb0 foot_nil
 refine cw_ (n := 23) func64 fun R_ hR_ => ?_
 refine sr_ fun _ hK1 => ?_
 refine ad_ hK1 ?_
 refine sr_ fun _ hK2 => ?_
 refine ad_ hK2 ?_
 refine WC.seq fun K3 hK3 => ?_
 refine sr_ fun _ hK4 => ?_
 refine mv_ ?_
 refine mv_ ?_
 refine dn_ hK4 (WC.block ?_)
 replace HS := HS.rowNil 3 1
 replace HS := HS.deriveN (p := (rF kI ([] : List Int) [])) (fun _ _ => Reps.none _ _)
 obtain ⟨G5, hG6, oc7, H, Ho8⟩ := open_G H
 let J16 := fun (xs9 : List Int) v10 I11 (i12 : Int) (s13 : ByteArray) (i14 : Int) (u15 : Bool) (E_ : Env) (W_ : World) => E_ = [(0, .pointer (some ⟨b0, 0, none⟩)), (2, vi a2), (3, vi a3), (9, v10), (10, vi a1), (11, vi i12)] ∧ St (fun _ => True) w0 W_ [rowM w0.heap.size 3 1 v10 xs9.length I11, boxM b0 #[.string s13, vi i14, .bool u15] 67, keepM w bs_] [(frameF w b0 bs_)] [(rF kI xs9 I11)]
 have X17 : ∀ E_ W_, (∃ xs9 v10 I11 i12 s13 i14 u15, G5 (xs9, i12, s13, i14, u15) = some (r1, y_) ∧ J16 xs9 v10 I11 i12 s13 i14 u15 E_ W_) → ∀ a, Fits a 23 E_ → K3 a W_ := by
   rintro E_ w18 ⟨xs9, v10, I11, i12, s13, i14, u15, H, rfl, HS⟩
   rw [hG6] at H
   (try dsimp only at H)
   refine hK3 _ _ ?_
   refine sr_ fun _ hK19 => ?_
   refine mv_ ?_
   refine ad_ hK19 ?_
   refine WC.ret ?_
   obtain ⟨A20, c21, rfl⟩ := row_slice (HS.mu 0 rfl)
   have le22 := row_le (HS.mu 0 rfl)
   replace HS := HS.freezeN 0 (p := (cF kI A20 (xs9))) rfl (fun W_ hm_ h_ => row_C (by rfl) hm_ h_.1)
   dsimp only [List.eraseIdx] at HS
   obtain ⟨rfl, rfl⟩ := Prod.mk.inj (os H)
   have HSf := HS
   exact fin1 Try.f64 rfl rfl hR_ ⟨_, _, rfl, le22, (foot_freshM (HSf.footN 0 rfl)), (HSf.mu 0 rfl), (rest_of (HSf.getO 0 rfl) (HSf.mu 1 rfl)), HSf.b⟩
 clear hK3
 refine WC.loop (fun k_ E_ W_ => ∃ xs9 v10 I11 i12 s13 i14 u15, (∃ o_, ilist.l0 a1 a2 a3 k_ xs9 i12 s13 i14 u15 = some o_ ∧ G5 o_ = some (r1, y_)) ∧ J16 xs9 v10 I11 i12 s13 i14 u15 E_ W_) k ⟨([] : List Int), (sn), ([]), 0, x0.f0, x0.f1, x0.f2, ⟨_, H, Ho8⟩, rfl, HS⟩ (sb rfl) ?_
 rintro k_ E_ w24 ⟨xs9, v10, I11, i12, s13, i14, u15, ⟨oc7, H, Ho8⟩, rfl, HS⟩
 rcases k_ with _ | k25
 · exact no_ H
 replace H : ilist.b0 a1 a2 a3 (ilist.l0 a1 a2 a3 k25) k25 xs9 i12 s13 i14 u15 = some oc7 := H
 unfold ilist.b0 at H
 refine sr_ fun _ hK26 => ?_
 refine b_ bin_lss ?_
 refine dn_ hK26 (WC.seq fun _ hK27 => ?_)
 rcases eti_ H with ⟨c28, H⟩ | ⟨c28, H⟩
 · refine wn_ (dF c28) (WC.exit ?_)
   obtain rfl := os H
   exact wv_ iq X17 ⟨xs9, v10, I11, i12, s13, i14, u15, Ho8, rfl, HS⟩
 refine wy_ (dT c28) (WC.skip (via_ hK27 (WC.seq fun _ hK29 => ?_)))
 refine WC.block (rg_ (mv_ ?_))
 refine mv_ ?_
 refine mv_ ?_
 obtain ⟨t30, ha31, H⟩ := bind_some H
 refine c_ func63 (iwide1.runs k25 b0 (⟨s13, i14, u15⟩ : S67) a2 _ t30.1 t30.2 _ _ HS.b (HS.nodupM 1 rfl) (HS.boundM 1 rfl) (HS.mu 1 rfl) ha31) ?_
 clear ha31
 rintro _ w32 ⟨rfl, hbx_, hrest_, hB1_⟩
 replace HS := HS.calledM 1 rfl hB1_ hrest_ hbx_
 dsimp only [List.set] at HS
 clear hB1_ hrest_ hbx_
 refine ⟨_, rfl, ?_⟩
 refine mv_ ?_
 refine b_ bin_sub64 ?_
 refine WL.val rfl rfl (by decide) (Run.lit1 (z := (vi 0)) (vs := [vi (wrap64 (t30.1 - a3))]) rfl rfl rfl underlying27 (by kernel_rfl) (ble_ rfl) (ble_ rfl)) ?_
 have HS1 := HS.below (below_alloc (Below.refl _ _) (.cells #[vi (wrap64 (t30.1 - a3))] 3))
 obtain ⟨q33, H⟩ := if_some H
 refine WL.append HS1 0 rfl rfl rfl (by decide) rfl (vi 0) 8 underlying27 (by kernel_rfl) rfl (by decide) (by decide) rfl rfl [vi (wrap64 (t30.1 - a3))] rfl (lit_news _ _ _) (oneL rfl) (by omega) ((xs9 ++ [wrap64 (t30.1 - a3)]).length) (by simp) (fun v34 w35 I36 hI37 HS => ?_)
 dsimp only [List.set] at HS
 replace HS := HS.deriveN (p := (rF kI (xs9 ++ [wrap64 (t30.1 - a3)]) I36)) (fun W_ hN_ => reps_snoc hI37 hN_.1 (K_int _))
 clear HS1
 refine ad_ hK29 ?_
 refine rg_ (b_ bin_add64 ?_)
 refine mv_ ?_
 refine WL.done ?_
 exact wr_ k25 iq ⟨(xs9 ++ [wrap64 (t30.1 - a3)]), v34, I36, (wrap64 (i12 + 1)), t30.2.f0, t30.2.f1, t30.2.f2, ⟨_, H, Ho8⟩, rfl, (St.pk HS [0] [0] rfl rfl)⟩
def imatri.b1 (a1 : Int) (a2 : Int) (t14 : (List Int) × Bool) (rec_ : Int → (List (List Int)) → Option (Int × (List (List Int)))) (k100 : Nat) (i32 : Int) (xs33 : List (List Int)) : Option (Int × (List (List Int))) := (if i32 < a2 then (if 0 ≤ (wrap64 (i32 * a1)) ∧ (wrap64 (i32 * a1)) ≤ (wrap64 ((wrap64 (i32 + 1)) * a1)) ∧ (wrap64 ((wrap64 (i32 + 1)) * a1)) ≤ (t14.1.length : Int) then (if (0) + (((t14.1.take (wrap64 ((wrap64 (i32 + 1)) * a1)).toNat).drop (wrap64 (i32 * a1)).toNat).length) < 4294967296 then (if (xs33.length) < 4294967296 then (rec_ (wrap64 (i32 + 1)) (xs33 ++ [(([] : List Int) ++ ((t14.1.take (wrap64 ((wrap64 (i32 + 1)) * a1)).toNat).drop (wrap64 (i32 * a1)).toNat))])) else none) else none) else none) else (some (i32, xs33)))
def imatri.l1 (a1 : Int) (a2 : Int) (t14 : (List Int) × Bool) : Nat → Int → (List (List Int)) → Option (Int × (List (List Int)))
 | 0, _, _ => none
 | k + 1, i32, xs33 => imatri.b1 a1 a2 t14 (imatri.l1 a1 a2 t14 k) k i32 xs33
def imatri.b0 (a1 : Int) (a2 : Int) (rec_ : Int → ByteArray → Int → Bool → (List (List Int)) → Option (Int × ByteArray × Int × Bool × (List (List Int)))) (k75 : Nat) (i45 : Int) (s46 : ByteArray) (i47 : Int) (u48 : Bool) (xs49 : List (List Int)) : Option (Int × ByteArray × Int × Bool × (List (List Int))) := (if i45 < a2 then ((ilist.g k75 (⟨s46, i47, u48⟩ : S67) (wrap64 (Int.tdiv a1 4)) 1 0).bind fun t83 => (if (xs49.length) < 4294967296 then (rec_ (wrap64 (i45 + 1)) t83.2.f0 t83.2.f1 t83.2.f2 (xs49 ++ [t83.1])) else none)) else (some (i45, s46, i47, u48, xs49)))
def imatri.l0 (a1 : Int) (a2 : Int) : Nat → Int → ByteArray → Int → Bool → (List (List Int)) → Option (Int × ByteArray × Int × Bool × (List (List Int)))
 | 0, _, _, _, _, _ => none
 | k + 1, i45, s46, i47, u48, xs49 => imatri.b0 a1 a2 (imatri.l0 a1 a2 k) k i45 s46 i47 u48 xs49
def imatri.g (k : Nat) (x0 : S67) (a1 : Int) (a2 : Int) : Option (S29 × S67) := (if 0 ≤ x0.f1 ∧ x0.f1 ≤ (wrap64 (x0.f1 + (wrap64 (Int.tdiv (wrap64 ((wrap64 (a1 * a2)) + 1)) 2)))) ∧ (wrap64 (x0.f1 + (wrap64 (Int.tdiv (wrap64 ((wrap64 (a1 * a2)) + 1)) 2)))) ≤ (x0.f0.size : Int) then ((iUN.g k (x0.f0.extract x0.f1.toNat (wrap64 (x0.f1 + (wrap64 (Int.tdiv (wrap64 ((wrap64 (a1 * a2)) + 1)) 2)))).toNat) (wrap64 (a1 * a2))).bind fun t14 => (if t14.2 = true then ((imatri.l1 a1 a2 t14 k 0 ([] : List (List Int))).bind (fun oc98 => ((imatri.l0 a1 a2 k 0 x0.f0 (wrap64 (x0.f1 + (wrap64 (Int.tdiv (wrap64 ((wrap64 (a1 * a2)) + 1)) 2)))) x0.f2 ([] : List (List Int))).bind (fun oc73 => ((iwide1.g k (⟨oc73.2.1, oc73.2.2.1, oc73.2.2.2.1⟩ : S67) 3).bind fun t56 => ((iwide1.g k (⟨t56.2.f0, t56.2.f1, t56.2.f2⟩ : S67) 1).bind fun t61 => (some ((⟨a1, oc98.2, oc73.2.2.2.2, t56.1, t61.1⟩ : S29), (⟨t61.2.f0, t61.2.f1, t61.2.f2⟩ : S67))))))))) else (some ((⟨a1, [], [], 0, 0⟩ : S29), (⟨x0.f0, x0.f1, true⟩ : S67))))) else none)
theorem imatri.runs (k : Nat) (b0 : Nat) (x0 : S67) (a1 : Int) (a2 : Int) (bs_ : List Nat) (r1 : S29) (y_ : S67) (w0 w : World) (hB_ : Below w0.heap.size w0 w) (hn_ : (b0 :: bs_).Nodup) (hl_ : ∀ k, k ∈ b0 :: bs_ → w0.heap.size ≤ k ∧ k < w.heap.size) (hb0 : w.heap[b0]? = some (.cells #[.string x0.f0, vi x0.f1, .bool x0.f2] 67 (0, 0))) (H : imatri.g k x0 a1 a2 = some (r1, y_)) :
   Calls prog 66 #[.pointer (some ⟨b0, 0, none⟩), vi a1, vi a2] w fun e w' => ∃ (A0_1_ : Option Addr) (c0_1_ : Nat) (A0_2_ : Option Addr) (c0_2_ : Nat), e = .returned (.agg #[vi r1.f0, .slice A0_1_ r1.f1.length c0_1_, .slice A0_2_ r1.f2.length c0_2_, vi r1.f3, vi r1.f4]) ∧ r1.f1.length ≤ c0_1_ ∧ Foot (cF kS3 A0_1_ r1.f1) w' (fun k_ => w0.heap.size ≤ k_ ∧ k_ ∉ b0 :: bs_) ∧ r1.f2.length ≤ c0_2_ ∧ Foot (cF kS3 A0_2_ r1.f2) w' (fun k_ => w0.heap.size ≤ k_ ∧ k_ ∉ b0 :: bs_) ∧ w'.heap[b0]? = some (.cells #[.string y_.f0, vi y_.f1, .bool y_.f2] 67 (0, 0)) ∧ RestOf w w' b0 ∧ Below w0.heap.size w0 w' := by
 unfold imatri.g at H
 have HS : St (fun _ => True) w0 w [boxM b0 #[.string x0.f0, vi x0.f1, .bool x0.f2] 67, keepM w bs_] [(frameF w b0 bs_)] [] := St.startM hB_ hn_ hl_ hb0 foot_nil
 refine cw_ (n := 96) func66 fun R_ hR_ => ?_
 refine sr_ fun _ hK1 => ?_
 refine WL.alloc HS (v := .agg #[vi 0, sn, sn, vi 0, vi 0]) (cs := #[vi 0, sn, sn, vi 0, vi 0]) rfl rfl (by decide) rfl (by kernel_rfl) rfl (fun b2 w3 hb2 HS => ?_)
 refine dn_ hK1 (sr_ fun _ hK4 => ?_)
 clear hK1
 refine mv_ ?_
 refine v_ (Run.build (cells := #[vi a1, sn, sn, vi 0, vi 0]) rfl [(0, vi a1)] ⟨⟨rfl, rfl⟩, trivial⟩ (by kernel_rfl)) ?_
 refine WL.alloc HS (v := .agg #[vi 0, sn, sn, vi 0, vi 0]) (cs := #[vi 0, sn, sn, vi 0, vi 0]) rfl rfl (by decide) rfl (by kernel_rfl) rfl (fun b5 w6 hb5 HS => ?_)
 refine WL.storeW HS 0 rfl rfl rfl rfl rfl rfl (oneL rfl) (by kernel_rfl) rfl (fun w7 HS => ?_)
 dsimp only [List.set] at HS
 refine dn_ hK4 (sr_ fun _ hK8 => ?_)
 clear hK4
 refine mv_ ?_
 refine mv_ ?_
 exact by (
 refine b_ bin_mul64 ?_
 refine b_ bin_add64 ?_
 refine v_ (Run.bin rfl rfl rfl (bin_quo64 (show (2 : Int) ≠ 0 by decide))) ?_
 refine ad_ hK8 ?_
 clear hK8
 refine WC.seq fun _ hK9 => ?_
 refine WC.drawS HS [] rfl rfl (fun w10 HS => ?_)
 have HB := Below.refl w10.heap.size w10
 have HSW := HS
 refine dm_ 0 ?_
 refine dp_ 1 (fun _ => Run.nilCheck rfl rfl) ?_
 refine df_ 2 underlying67 ?_
 refine dm_ 4 ?_
 refine dp_ 5 (fun _ => Run.nilCheck rfl rfl) ?_
 refine df_ 6 underlying67 ?_
 refine dm_ 8 ?_
 exact by (
 refine dp_ 9 (fun _ => Run.nilCheck rfl rfl) ?_
 refine df_ 10 underlying67 ?_
 refine dm_ 12 ?_
 refine dm_ 15 ?_
 refine dm_ 16 ?_
 refine dp_ 17 (fun _ => Run.bin rfl rfl rfl bin_mul64) ?_
 refine bl_ 3 HS (Below.refl _ _) 2 underlying9 rfl ?_
 refine bl_ 7 HS (Below.refl _ _) 2 underlying3 rfl ?_
 refine bl_ 11 HS (Below.refl _ _) 2 underlying3 rfl ?_
 refine dp_ 13 (fun _ => Run.bin rfl rfl rfl bin_add64) ?_
 obtain ⟨⟨q11, q12, q13⟩, H⟩ := if_some H
 refine dp_ 14 (fun _ => Run.strLH rfl underlying9 rfl rfl rfl q11 q12 q13) ?_
 obtain ⟨t14, ha15, H⟩ := bind_some H
 refine dc_ 18 (w_none rfl) func87 (iUN.runs k (x0.f0.extract x0.f1.toNat (wrap64 (x0.f1 + (wrap64 (Int.tdiv (wrap64 ((wrap64 (a1 * a2)) + 1)) 2)))).toNat) (wrap64 (a1 * a2)) t14.1 t14.2 _  ha15) ?_
 clear ha15
 rintro _ w16 ⟨A17, c18, rfl, le19, hf20, hb⟩
 exact by (
 replace HB := HB.trans (hb.mono HB.size)
 replace HS := HS.newNs hb (foot_cons hf20 foot_nil)
 refine ⟨HB, _, rfl, ?_⟩
 clear hb
 refine dm_ 19 ?_
 refine dp_ 20 (fun _ => Run.extract rfl rfl rfl) ?_
 refine dp_ 21 (fun _ => Run.extract rfl rfl rfl) ?_
 refine dp_ 22 (fun _ => Run.assign rfl rfl) ?_
 refine dp_ 23 (fun _ => Run.assign rfl rfl) ?_
 refine dd_ ?_
 clear HB HSW
 refine via_ hK9 (WC.seq fun _ hK21 => ?_)
 clear hK9
 refine sr_ fun _ hK22 => ?_
 refine mv_ ?_
 refine nt_ ?_
 exact by (
 refine dn_ hK22 ?_
 clear hK22
 rcases eti_ H with ⟨c23, H⟩ | ⟨c23, H⟩
 · refine wy_ (nB (bF c23)) (sr_ fun _ hK140 => ?_)
   refine mv_ ?_
   refine v_ (Run.nilCheck rfl rfl) ?_
   refine v_ (fa_ underlying67) ?_
   refine WL.store HS 2 rfl rfl rfl rfl rfl rfl rfl (by kernel_rfl) (ble_ rfl) (cs' := #[.string x0.f0, vi x0.f1, .bool true]) (by kernel_rfl) (fun w141 HS => ?_)
   dsimp only [List.set] at HS
   refine dn_ hK140 (sr_ fun _ hK142 => ?_)
   clear hK140
   refine v_ (ls_ (HS.mu 0 rfl) underlying29 part_all) ?_
   refine WL.storeW HS 1 rfl rfl rfl rfl rfl rfl (oneL rfl) (by kernel_rfl) rfl (fun w143 HS => ?_)
   dsimp only [List.set] at HS
   refine dn_ hK142 (WC.ret ?_)
   clear hK142
   obtain ⟨rfl, rfl⟩ := Prod.mk.inj (os H)
   exact by (
   have HSf := (St.forget (St.forget HS 1 rfl) 0 rfl)
   exact fin1 Try.f66 rfl ⟨_, rfl, resv_box (HS.mu 1 rfl) underlying29 rfl (by kernel_rfl)⟩ hR_ ⟨_, _, _, _, rfl, (Nat.le_refl _), (fun W_ _ => Kd.C_nil _ _), (Nat.le_refl _), (fun W_ _ => Kd.C_nil _ _), (HSf.mu 0 rfl), (rest_of (HSf.getO 0 rfl) (HSf.mu 1 rfl)), HSf.b⟩ )
 refine wn_ (nB c23) (WC.skip (via_ hK21 (sr_ fun _ hK24 => ?_)))
 clear hK21
 refine mv_ ?_
 refine v_ (Run.nilCheck rfl rfl) ?_
 refine v_ (fa_ underlying67) ?_
 refine v_ (lb_ (HS.mu 2 rfl) underlying3 rfl) ?_
 refine mv_ ?_
 refine b_ bin_add64 ?_
 refine v_ (Run.nilCheck rfl rfl) ?_
 refine v_ (fa_ underlying67) ?_
 refine WL.store HS 2 rfl rfl rfl rfl rfl rfl rfl (by kernel_rfl) (ble_ rfl) (cs' := #[.string x0.f0, vi (wrap64 (x0.f1 + (wrap64 (Int.tdiv (wrap64 ((wrap64 (a1 * a2)) + 1)) 2)))), .bool x0.f2]) (by kernel_rfl) (fun w25 HS => ?_)
 dsimp only [List.set] at HS
 refine dn_ hK24 (WC.seq fun K26 hK26 => ?_)
 clear hK24
 exact by (
 refine sr_ fun _ hK27 => ?_
 refine mv_ ?_
 refine mv_ ?_
 refine dn_ hK27 (WC.block ?_)
 clear hK27
 replace HS := HS.rowNil 27 1
 replace HS := HS.deriveN (p := (rF kS3 ([] : List (List Int)) [])) (fun _ _ => Reps.none _ _)
 obtain ⟨G28, hG29, oc30, H, Ho31⟩ := open_G H
 let J36 := fun (i32 : Int) (xs33 : List (List Int)) v34 I35 (E_ : Env) (W_ : World) => E_ = [(0, .pointer (some ⟨b0, 0, none⟩)), (1, vi a1), (2, vi a2), (6, .pointer (some ⟨b2, 0, none⟩)), (7, .pointer (some ⟨b5, 0, none⟩)), (9, .slice A17 t14.1.length c18), (55, vi a2), (56, vi i32)] ∧ St (fun _ => True) w0 W_ [rowM w0.heap.size 27 1 v34 xs33.length I35, boxM b5 #[vi a1, v34, sn, vi 0, vi 0] 29, boxM b2 #[vi 0, sn, sn, vi 0, vi 0] 29, boxM b0 #[.string x0.f0, vi (wrap64 (x0.f1 + (wrap64 (Int.tdiv (wrap64 ((wrap64 (a1 * a2)) + 1)) 2)))), .bool x0.f2] 67, keepM w bs_] [(frameF w b0 bs_)] [(rF kS3 xs33 I35), (cF kI A17 t14.1)]
 have X37 : ∀ E_ W_, (∃ i32 xs33 v34 I35, G28 (i32, xs33) = some (r1, y_) ∧ J36 i32 xs33 v34 I35 E_ W_) → ∀ a, Fits a 96 E_ → K26 a W_ := by
   rintro E_ w38 ⟨i32, xs33, v34, I35, H, rfl, HS⟩
   rw [hG29] at H
   (try dsimp only at H)
   refine hK26 _ _ ?_
   clear hK26
   refine WC.seq fun K39 hK39 => ?_
   exact by (
   refine sr_ fun _ hK40 => ?_
   refine mv_ ?_
   refine mv_ ?_
   refine dn_ hK40 (WC.block ?_)
   clear hK40
   replace HS := HS.rowNil 27 1
   replace HS := HS.deriveN (p := (rF kS3 ([] : List (List Int)) [])) (fun _ _ => Reps.none _ _)
   obtain ⟨G41, hG42, oc43, H, Ho44⟩ := open_G H
   let J52 := fun (i45 : Int) (s46 : ByteArray) (i47 : Int) (u48 : Bool) (xs49 : List (List Int)) v50 I51 (E_ : Env) (W_ : World) => E_ = [(0, .pointer (some ⟨b0, 0, none⟩)), (1, vi a1), (6, .pointer (some ⟨b2, 0, none⟩)), (7, .pointer (some ⟨b5, 0, none⟩)), (76, vi a2), (77, vi i45)] ∧ St (fun _ => True) w0 W_ [rowM w0.heap.size 27 1 v50 xs49.length I51, rowM w0.heap.size 27 1 v34 xs33.length I35, boxM b5 #[vi a1, v34, v50, vi 0, vi 0] 29, boxM b2 #[vi 0, sn, sn, vi 0, vi 0] 29, boxM b0 #[.string s46, vi i47, .bool u48] 67, keepM w bs_] [(frameF w b0 bs_)] [(rF kS3 xs49 I51), (rF kS3 xs33 I35)]
   have X53 : ∀ E_ W_, (∃ i45 s46 i47 u48 xs49 v50 I51, G41 (i45, s46, i47, u48, xs49) = some (r1, y_) ∧ J52 i45 s46 i47 u48 xs49 v50 I51 E_ W_) → ∀ a, Fits a 96 E_ → K39 a W_ := by
     rintro E_ w54 ⟨i45, s46, i47, u48, xs49, v50, I51, H, rfl, HS⟩
     rw [hG42] at H
     (try dsimp only at H)
     refine hK39 _ _ ?_
     clear hK39
     refine sr_ fun _ hK55 => ?_
     exact by (
     refine mv_ ?_
     obtain ⟨t56, ha57, H⟩ := bind_some H
     refine c_ func63 (iwide1.runs k b0 (⟨s46, i47, u48⟩ : S67) 3 _ t56.1 t56.2 _ _ HS.b (HS.nodupM 4 rfl) (HS.boundM 4 rfl) (HS.mu 4 rfl) ha57) ?_
     clear ha57
     rintro _ w58 ⟨rfl, hbx_, hrest_, hB1_⟩
     replace HS := HS.calledM 4 rfl hB1_ hrest_ hbx_
     dsimp only [List.set] at HS
     clear hB1_ hrest_ hbx_
     refine ⟨_, rfl, ?_⟩
     refine v_ (fa_ underlying29) ?_
     refine WL.store HS 2 rfl rfl rfl rfl rfl rfl rfl (by kernel_rfl) (ble_ rfl) (cs' := #[vi a1, v34, v50, vi t56.1, vi 0]) (by kernel_rfl) (fun w59 HS => ?_)
     dsimp only [List.set] at HS
     refine dn_ hK55 (sr_ fun _ hK60 => ?_)
     clear hK55
     refine mv_ ?_
     obtain ⟨t61, ha62, H⟩ := bind_some H
     exact by (
     refine c_ func63 (iwide1.runs k b0 (⟨t56.2.f0, t56.2.f1, t56.2.f2⟩ : S67) 1 _ t61.1 t61.2 _ _ HS.b (HS.nodupM 4 rfl) (HS.boundM 4 rfl) (HS.mu 4 rfl) ha62) ?_
     clear ha62
     rintro _ w63 ⟨rfl, hbx_, hrest_, hB1_⟩
     replace HS := HS.calledM 4 rfl hB1_ hrest_ hbx_
     dsimp only [List.set] at HS
     clear hB1_ hrest_ hbx_
     refine ⟨_, rfl, ?_⟩
     refine v_ (fa_ underlying29) ?_
     refine WL.store HS 2 rfl rfl rfl rfl rfl rfl rfl (by kernel_rfl) (ble_ rfl) (cs' := #[vi a1, v34, v50, vi t56.1, vi t61.1]) (by kernel_rfl) (fun w64 HS => ?_)
     dsimp only [List.set] at HS
     refine dn_ hK60 (sr_ fun _ hK65 => ?_)
     clear hK60
     obtain ⟨A66, c67, rfl⟩ := row_slice (HS.mu 1 rfl)
     obtain ⟨A68, c69, rfl⟩ := row_slice (HS.mu 0 rfl)
     refine v_ (ls_ (HS.mu 2 rfl) underlying29 part_all) ?_
     refine WL.storeW HS 3 rfl rfl rfl rfl rfl rfl (oneL rfl) (by kernel_rfl) rfl (fun w70 HS => ?_)
     exact by (
     dsimp only [List.set] at HS
     refine dn_ hK65 (WC.ret ?_)
     clear hK65
     have le71 := row_le (HS.mu 1 rfl)
     replace HS := HS.freezeN 1 (p := (cF kS3 A66 (xs33))) rfl (fun W_ hm_ h_ => row_C (by rfl) hm_ h_.2.1)
     dsimp only [List.eraseIdx] at HS
     have le72 := row_le (HS.mu 0 rfl)
     replace HS := HS.freezeN 0 (p := (cF kS3 A68 (xs49))) rfl (fun W_ hm_ h_ => row_C (by rfl) hm_ h_.2.1)
     dsimp only [List.eraseIdx] at HS
     obtain ⟨rfl, rfl⟩ := Prod.mk.inj (os H)
     have HSf := (St.forget (St.forget HS 1 rfl) 0 rfl)
     exact fin1 Try.f66 rfl ⟨_, rfl, resv_box (HS.mu 1 rfl) underlying29 rfl (by kernel_rfl)⟩ hR_ ⟨_, _, _, _, rfl, le71, (foot_freshM (HSf.footN 1 rfl)), le72, (foot_freshM (HSf.footN 0 rfl)), (HSf.mu 0 rfl), (rest_of (HSf.getO 0 rfl) (HSf.mu 1 rfl)), HSf.b⟩ )))
   clear hK39
   refine WC.loop (fun k_ E_ W_ => ∃ i45 s46 i47 u48 xs49 v50 I51, (∃ o_, imatri.l0 a1 a2 k_ i45 s46 i47 u48 xs49 = some o_ ∧ G41 o_ = some (r1, y_)) ∧ J52 i45 s46 i47 u48 xs49 v50 I51 E_ W_) k ⟨0, x0.f0, (wrap64 (x0.f1 + (wrap64 (Int.tdiv (wrap64 ((wrap64 (a1 * a2)) + 1)) 2)))), x0.f2, ([] : List (List Int)), (sn), ([]), ⟨_, H, Ho44⟩, rfl, (St.pk HS [0] [0, 1] rfl rfl)⟩ (sb rfl) ?_
   rintro k_ E_ w74 ⟨i45, s46, i47, u48, xs49, v50, I51, ⟨oc43, H, Ho44⟩, rfl, HS⟩
   rcases k_ with _ | k75
   · exact no_ H
   exact by (
   replace H : imatri.b0 a1 a2 (imatri.l0 a1 a2 k75) k75 i45 s46 i47 u48 xs49 = some oc43 := H
   unfold imatri.b0 at H
   refine sr_ fun _ hK76 => ?_
   refine b_ bin_lss ?_
   refine dn_ hK76 (WC.seq fun _ hK77 => ?_)
   clear hK76
   rcases eti_ H with ⟨c78, H⟩ | ⟨c78, H⟩
   · refine wn_ (dF c78) (WC.exit ?_)
     obtain rfl := os H
     exact wv_ iq X53 ⟨i45, s46, i47, u48, xs49, v50, I51, Ho44, rfl, HS⟩
   refine wy_ (dT c78) (WC.skip (via_ hK77 (WC.seq fun _ hK79 => ?_)))
   clear hK77
   refine WC.block (WC.drawW HS [boxM b5 #[vi a1, v34, v50, vi 0, vi 0] 29, boxM b2 #[vi 0, sn, sn, vi 0, vi 0] 29] (fun _ HS => ⟨(HS.mu 2 rfl), (HS.mu 3 rfl), trivial⟩) [9] rfl rfl (fun w80 HS => ?_))
   refine df_ 0 underlying29 ?_
   refine dm_ 2 ?_
   refine dm_ 3 ?_
   exact by (
   refine dp_ 4 (fun _ => Run.bin rfl rfl rfl (bin_quo64 (show (4 : Int) ≠ 0 by decide))) ?_
   obtain ⟨A81, c82, rfl⟩ := row_slice (HS.mu 0 rfl)
   refine dt_ 1 ⟨HS.nowO, HS.nowN, ⟨(HS.mu 2 rfl), (HS.mu 3 rfl), trivial⟩⟩ (fun w_ hw_ => Run.load rfl rfl underlying25 rfl (box_cell hw_.2.2.1 rfl)) ?_
   obtain ⟨t83, ha84, H⟩ := bind_some H
   refine dc_ 5 (w_none rfl) func64 (ilist.runs k75 b0 (⟨s46, i47, u48⟩ : S67) (wrap64 (Int.tdiv a1 4)) 1 0 _ t83.1 t83.2 _ _ HS.b (HS.nodupM 4 rfl) (HS.boundM 4 rfl) (HS.mu 4 rfl) ha84) ?_
   clear ha84
   rintro _ w85 ⟨A86, c87, rfl, le88, hf89, hbx_, hrest_, hB1_⟩
   replace HS := HS.newM 4 rfl hB1_ hrest_ hbx_ (foot_cons hf89 foot_nil)
   dsimp only [List.set] at HS
   clear hB1_ hrest_ hbx_
   refine ⟨⟨HS.nowO, HS.nowN.2, ⟨(HS.mu 2 rfl), (HS.mu 3 rfl), trivial⟩⟩, _, rfl, ?_⟩
   have HS1 := HS.below (below_alloc (Below.refl _ _) (.cells #[.slice A86 t83.1.length c87] 27))
   refine dv_ 6 (w_none rfl) (Run.lit1 (z := (sn)) (vs := [.slice A86 t83.1.length c87]) rfl rfl rfl underlying25 (by kernel_rfl) (ble_ rfl) (ble_ rfl)) ⟨HS1.nowO, HS1.nowN.2, ⟨(HS1.mu 2 rfl), (HS1.mu 3 rfl), trivial⟩⟩ ?_
   obtain ⟨q90, H⟩ := if_some H
   refine WD.append 7 (w_none rfl) HS1 0 rfl rfl (sn) 24 underlying25 (by kernel_rfl) rfl (by decide) (by decide) rfl rfl [.slice A86 t83.1.length c87] rfl (lit_news _ _ _) (oneL rfl) (by omega) ((xs49 ++ [t83.1]).length) (by simp) (fun v91 w92 I93 hI94 HS => ?_)
   dsimp only [List.set] at HS
   exact by (
   replace HS := HS.deriveN (p := (rF kS3 (xs49 ++ [t83.1]) I93)) (fun W_ hN_ => reps_snoc hI94 hN_.2.1 (K_slice le88 hN_.1))
   clear HS1
   refine ⟨⟨HS.nowO, HS.nowN.2.2, ⟨(HS.mu 2 rfl), (HS.mu 3 rfl), trivial⟩⟩, ?_⟩
   refine df_ 8 underlying29 ?_
   obtain ⟨A96, c97, rfl⟩ := row_slice (HS.mu 0 rfl)
   refine WD.storeL 9 HS 2 rfl rfl rfl rfl rfl (by kernel_rfl) (ble_ rfl) (cs' := #[vi a1, v34, (.slice A96 ((xs49 ++ [t83.1]).length) c97), vi 0, vi 0]) (by kernel_rfl) (fun w95 HS => ?_)
   dsimp only [List.set] at HS
   refine dd_ (via_ hK79 (rg_ (b_ bin_add64 ?_)))
   clear hK79
   refine mv_ ?_
   refine WL.done ?_
   exact wr_ k75 iq ⟨(wrap64 (i45 + 1)), t83.2.f0, t83.2.f1, t83.2.f2, (xs49 ++ [t83.1]), (.slice A96 ((xs49 ++ [t83.1]).length) c97), I93, ⟨_, H, Ho44⟩, rfl, (St.pk HS [0] [0, 3] rfl rfl)⟩ ))))
 clear hK26
 refine WC.loop (fun k_ E_ W_ => ∃ i32 xs33 v34 I35, (∃ o_, imatri.l1 a1 a2 t14 k_ i32 xs33 = some o_ ∧ G28 o_ = some (r1, y_)) ∧ J36 i32 xs33 v34 I35 E_ W_) k ⟨0, ([] : List (List Int)), (sn), ([]), ⟨_, H, Ho31⟩, rfl, HS⟩ (sb rfl) ?_
 rintro k_ E_ w99 ⟨i32, xs33, v34, I35, ⟨oc30, H, Ho31⟩, rfl, HS⟩
 rcases k_ with _ | k100
 · exact no_ H
 exact by (
 replace H : imatri.b1 a1 a2 t14 (imatri.l1 a1 a2 t14 k100) k100 i32 xs33 = some oc30 := H
 unfold imatri.b1 at H
 refine sr_ fun _ hK101 => ?_
 refine b_ bin_lss ?_
 refine dn_ hK101 (WC.seq fun _ hK102 => ?_)
 clear hK101
 rcases eti_ H with ⟨c103, H⟩ | ⟨c103, H⟩
 · refine wn_ (dF c103) (WC.exit ?_)
   obtain rfl := os H
   exact wv_ iq X37 ⟨i32, xs33, v34, I35, Ho31, rfl, HS⟩
 refine wy_ (dT c103) (WC.skip (via_ hK102 (WC.seq fun _ hK104 => ?_)))
 clear hK102
 refine WC.block (sr_ fun _ hK105 => ?_)
 refine mv_ ?_
 refine ad_ hK105 ?_
 clear hK105
 exact by (
 refine WC.drawW HS [boxM b5 #[vi a1, v34, sn, vi 0, vi 0] 29, boxM b2 #[vi 0, sn, sn, vi 0, vi 0] 29, boxM b0 #[.string x0.f0, vi (wrap64 (x0.f1 + (wrap64 (Int.tdiv (wrap64 ((wrap64 (a1 * a2)) + 1)) 2)))), .bool x0.f2] 67] (fun _ HS => ⟨(HS.mu 1 rfl), (HS.mu 2 rfl), (HS.mu 3 rfl), trivial⟩) [16] rfl rfl (fun w106 HS => ?_)
 refine df_ 0 underlying29 ?_
 refine dm_ 3 ?_
 refine dm_ 4 ?_
 refine dm_ 5 ?_
 refine dp_ 6 (fun _ => Run.bin rfl rfl rfl bin_mul64) ?_
 refine dm_ 7 ?_
 refine dp_ 8 (fun _ => Run.bin rfl rfl rfl bin_add64) ?_
 refine dm_ 9 ?_
 refine dp_ 10 (fun _ => Run.bin rfl rfl rfl bin_mul64) ?_
 obtain ⟨⟨q107, q108, q109⟩, H⟩ := if_some H
 obtain ⟨A110, c111, he112, le113, hf114⟩ := slc_mid kI A17 c18 t14.1 (wrap64 (i32 * a1)) (wrap64 ((wrap64 (i32 + 1)) * a1)) q107 q108 q109 le19
 replace HS := HS.deriveN (p := (cF kI A110 ((t14.1.take (wrap64 ((wrap64 (i32 + 1)) * a1)).toNat).drop (wrap64 (i32 * a1)).toNat))) (fun W_ hN_ => hf114 W_ hN_.2.1)
 refine dp_ 11 (fun _ => Run.eqv he112 (Run.slLH rfl underlying27 (by kernel_rfl) rfl rfl rfl q107 q108 (Int.le_trans q109 (Int.ofNat_le.mpr le19)))) ?_
 obtain ⟨A115, c116, rfl⟩ := row_slice (HS.mu 0 rfl)
 refine dt_ 1 ⟨HS.nowO, HS.nowN.2, ⟨(HS.mu 1 rfl), (HS.mu 2 rfl), (HS.mu 3 rfl), trivial⟩⟩ (fun w_ hw_ => Run.load rfl rfl underlying25 rfl (box_cell hw_.2.2.1 rfl)) ?_
 exact by (
 refine WD.lit0 2 (w_none rfl) HS rfl underlying27 (sz := 1) (by kernel_rfl) (fun v117 w118 HS => ?_)
 replace HS := HS.deriveN (p := (rF kI ([] : List Int) [])) (fun _ _ => Reps.none _ _)
 refine ⟨⟨HS.nowO, HS.nowN.2.2, ⟨(HS.mu 2 rfl), (HS.mu 3 rfl), (HS.mu 4 rfl), trivial⟩⟩, ?_⟩
 obtain ⟨q119, H⟩ := if_some H
 obtain ⟨L120, hl121, h122, hF123, hc124⟩ := foot_all (HS.footN 1 rfl) (by decide) rfl
 replace HS := HS.addN (p := (rF kI ((t14.1.take (wrap64 ((wrap64 (i32 + 1)) * a1)).toNat).drop (wrap64 (i32 * a1)).toNat) L120)) (fun W_ _ => hF123.now)
 refine WD.appendL 12 (w_none rfl) HS 0 rfl rfl (vi 0) 8 underlying27 (by kernel_rfl) rfl (by decide) (by decide) rfl rfl L120 hl121 hc124 h122 (by omega) ((([] : List Int) ++ ((t14.1.take (wrap64 ((wrap64 (i32 + 1)) * a1)).toNat).drop (wrap64 (i32 * a1)).toNat)).length) (by simp <;> omega) (fun v125 w126 I127 hI128 HS => ?_)
 dsimp only [List.set] at HS
 replace HS := HS.deriveN (p := (rF kI (([] : List Int) ++ ((t14.1.take (wrap64 ((wrap64 (i32 + 1)) * a1)).toNat).drop (wrap64 (i32 * a1)).toNat)) I127)) (fun W_ hN_ => reps_more hI128 hN_.2.1 hN_.1)
 refine ⟨⟨HS.nowO, HS.nowN.2.2.2.2, ⟨(HS.mu 2 rfl), (HS.mu 3 rfl), (HS.mu 4 rfl), trivial⟩⟩, ?_⟩
 obtain ⟨A129, c130, rfl⟩ := row_slice (HS.mu 0 rfl)
 have le131 := row_le (HS.mu 0 rfl)
 replace HS := HS.freezeN 0 (p := (cF kI A129 ((([] : List Int) ++ ((t14.1.take (wrap64 ((wrap64 (i32 + 1)) * a1)).toNat).drop (wrap64 (i32 * a1)).toNat))))) rfl (fun W_ hm_ h_ => row_C (by rfl) hm_ h_.1)
 dsimp only [List.eraseIdx] at HS
 have HS1 := HS.below (below_alloc (Below.refl _ _) (.cells #[.slice A129 ((([] : List Int) ++ ((t14.1.take (wrap64 ((wrap64 (i32 + 1)) * a1)).toNat).drop (wrap64 (i32 * a1)).toNat)).length) c130] 27))
 refine dv_ 13 (w_none rfl) (Run.lit1 (z := (sn)) (vs := [.slice A129 ((([] : List Int) ++ ((t14.1.take (wrap64 ((wrap64 (i32 + 1)) * a1)).toNat).drop (wrap64 (i32 * a1)).toNat)).length) c130]) rfl rfl rfl underlying25 (by kernel_rfl) (ble_ rfl) (ble_ rfl)) ⟨HS1.nowO, HS1.nowN.2.2.2.2.2, ⟨(HS1.mu 1 rfl), (HS1.mu 2 rfl), (HS1.mu 3 rfl), trivial⟩⟩ ?_
 exact by (
 obtain ⟨q132, H⟩ := if_some H
 refine WD.append 14 (w_none rfl) HS1 0 rfl rfl (sn) 24 underlying25 (by kernel_rfl) rfl (by decide) (by decide) rfl rfl [.slice A129 ((([] : List Int) ++ ((t14.1.take (wrap64 ((wrap64 (i32 + 1)) * a1)).toNat).drop (wrap64 (i32 * a1)).toNat)).length) c130] rfl (lit_news _ _ _) (oneL rfl) (by omega) ((xs33 ++ [(([] : List Int) ++ ((t14.1.take (wrap64 ((wrap64 (i32 + 1)) * a1)).toNat).drop (wrap64 (i32 * a1)).toNat))]).length) (by simp) (fun v133 w134 I135 hI136 HS => ?_)
 dsimp only [List.set] at HS
 replace HS := HS.deriveN (p := (rF kS3 (xs33 ++ [(([] : List Int) ++ ((t14.1.take (wrap64 ((wrap64 (i32 + 1)) * a1)).toNat).drop (wrap64 (i32 * a1)).toNat))]) I135)) (fun W_ hN_ => reps_snoc hI136 hN_.2.2.2.2.2.1 (K_slice le131 hN_.1))
 clear HS1
 refine ⟨⟨HS.nowO, HS.nowN.2.2.2.2.2.2, ⟨(HS.mu 1 rfl), (HS.mu 2 rfl), (HS.mu 3 rfl), trivial⟩⟩, ?_⟩
 refine df_ 15 underlying29 ?_
 obtain ⟨A138, c139, rfl⟩ := row_slice (HS.mu 0 rfl)
 refine WD.storeL 16 HS 1 rfl rfl rfl rfl rfl (by kernel_rfl) (ble_ rfl) (cs' := #[vi a1, (.slice A138 ((xs33 ++ [(([] : List Int) ++ ((t14.1.take (wrap64 ((wrap64 (i32 + 1)) * a1)).toNat).drop (wrap64 (i32 * a1)).toNat))]).length) c139), sn, vi 0, vi 0]) (by kernel_rfl) (fun w137 HS => ?_)
 dsimp only [List.set] at HS
 refine dd_ (via_ hK104 (rg_ (b_ bin_add64 ?_)))
 clear hK104
 refine mv_ ?_
 refine WL.done ?_
 exact wr_ k100 iq ⟨(wrap64 (i32 + 1)), (xs33 ++ [(([] : List Int) ++ ((t14.1.take (wrap64 ((wrap64 (i32 + 1)) * a1)).toNat).drop (wrap64 (i32 * a1)).toNat))]), (.slice A138 ((xs33 ++ [(([] : List Int) ++ ((t14.1.take (wrap64 ((wrap64 (i32 + 1)) * a1)).toNat).drop (wrap64 (i32 * a1)).toNat))]).length) c139), I135, ⟨_, H, Ho31⟩, rfl, (St.pk HS [0] [0, 7] rfl rfl)⟩ )))))))))
def impl_fileReader_layer.g (k : Nat) (x0 : S67) (a1 : Int) (a2 : Int) : Option (S52 × S67) := ((ilist.g k (⟨x0.f0, x0.f1, x0.f2⟩ : S67) a1 1 0).bind fun t5 => ((imatri.g k (⟨t5.2.f0, t5.2.f1, t5.2.f2⟩ : S67) a1 a1).bind fun t16 => ((imatri.g k (⟨t16.2.f0, t16.2.f1, t16.2.f2⟩ : S67) a1 a1).bind fun t29 => ((imatri.g k (⟨t29.2.f0, t29.2.f1, t29.2.f2⟩ : S67) a1 a1).bind fun t42 => ((imatri.g k (⟨t42.2.f0, t42.2.f1, t42.2.f2⟩ : S67) a1 a1).bind fun t55 => ((ilist.g k (⟨t55.2.f0, t55.2.f1, t55.2.f2⟩ : S67) a1 1 0).bind fun t68 => ((imatri.g k (⟨t68.2.f0, t68.2.f1, t68.2.f2⟩ : S67) a1 a2).bind fun t77 => ((imatri.g k (⟨t77.2.f0, t77.2.f1, t77.2.f2⟩ : S67) a2 a1).bind fun t90 => (some ((⟨t5.1, (⟨t16.1.f0, t16.1.f1, t16.1.f2, t16.1.f3, t16.1.f4⟩ : S29), (⟨t29.1.f0, t29.1.f1, t29.1.f2, t29.1.f3, t29.1.f4⟩ : S29), (⟨t42.1.f0, t42.1.f1, t42.1.f2, t42.1.f3, t42.1.f4⟩ : S29), (⟨t55.1.f0, t55.1.f1, t55.1.f2, t55.1.f3, t55.1.f4⟩ : S29), t68.1, (⟨t77.1.f0, t77.1.f1, t77.1.f2, t77.1.f3, t77.1.f4⟩ : S29), (⟨t90.1.f0, t90.1.f1, t90.1.f2, t90.1.f3, t90.1.f4⟩ : S29)⟩ : S52), (⟨t90.2.f0, t90.2.f1, t90.2.f2⟩ : S67)))))))))))
theorem impl_fileReader_layer.runs (k : Nat) (b0 : Nat) (x0 : S67) (a1 : Int) (a2 : Int) (bs_ : List Nat) (r1 : S52) (y_ : S67) (w0 w : World) (hB_ : Below w0.heap.size w0 w) (hn_ : (b0 :: bs_).Nodup) (hl_ : ∀ k, k ∈ b0 :: bs_ → w0.heap.size ≤ k ∧ k < w.heap.size) (hb0 : w.heap[b0]? = some (.cells #[.string x0.f0, vi x0.f1, .bool x0.f2] 67 (0, 0))) (H : impl_fileReader_layer.g k x0 a1 a2 = some (r1, y_)) :
   Calls prog 65 #[.pointer (some ⟨b0, 0, none⟩), vi a1, vi a2] w fun e w' => ∃ (cs0_ : List Value), e = .returned (.agg cs0_.toArray) ∧ Foot (kF k52 r1 cs0_) w' (fun k_ => w0.heap.size ≤ k_ ∧ k_ ∉ b0 :: bs_) ∧ w'.heap[b0]? = some (.cells #[.string y_.f0, vi y_.f1, .bool y_.f2] 67 (0, 0)) ∧ RestOf w w' b0 ∧ Below w0.heap.size w0 w' := by
 unfold impl_fileReader_layer.g at H
 have HS : St (fun _ => True) w0 w [boxM b0 #[.string x0.f0, vi x0.f1, .bool x0.f2] 67, keepM w bs_] [(frameF w b0 bs_)] [] := St.startM hB_ hn_ hl_ hb0 foot_nil
 refine cw_ (n := 47) func65 fun R_ hR_ => ?_
 refine sr_ fun _ hK1 => ?_
 refine WL.alloc HS (v := .agg zz2) (cs := zz2) rfl rfl (by decide) rfl (by kernel_rfl) rfl (fun b2 w3 hb2 HS => ?_)
 refine dn_ hK1 (sr_ fun _ hK4 => ?_)
 clear hK1
 refine mv_ ?_
 refine mv_ ?_
 obtain ⟨t5, ha6, H⟩ := bind_some H
 refine c_ func64 (ilist.runs k b0 (⟨x0.f0, x0.f1, x0.f2⟩ : S67) a1 1 0 _ t5.1 t5.2 _ _ HS.b (HS.nodupM 1 rfl) (HS.boundM 1 rfl) (HS.mu 1 rfl) ha6) ?_
 clear ha6
 rintro _ w7 ⟨A8, c9, rfl, le10, hf11, hbx_, hrest_, hB1_⟩
 replace HS := HS.newM 1 rfl hB1_ hrest_ hbx_ (foot_cons hf11 foot_nil)
 dsimp only [List.set] at HS
 clear hB1_ hrest_ hbx_
 exact by (
 refine ⟨_, rfl, ?_⟩
 refine v_ (Run.build (cells := #[.slice A8 t5.1.length c9, vi 0, sn, sn, vi 0, vi 0, vi 0, sn, sn, vi 0, vi 0, vi 0, sn, sn, vi 0, vi 0, vi 0, sn, sn, vi 0, vi 0, sn, vi 0, sn, sn, vi 0, vi 0, vi 0, sn, sn, vi 0, vi 0]) rfl [(0, .slice A8 t5.1.length c9)] ⟨⟨rfl, rfl⟩, trivial⟩ (by kernel_rfl)) ?_
 refine WL.alloc HS (v := .agg zz2) (cs := zz2) rfl rfl (by decide) rfl (by kernel_rfl) rfl (fun b12 w13 hb12 HS => ?_)
 refine WL.storeW HS 0 rfl rfl rfl rfl rfl rfl (oneL rfl) (by kernel_rfl) rfl (fun w14 HS => ?_)
 dsimp only [List.set] at HS
 refine dn_ hK4 (sr_ fun _ hK15 => ?_)
 clear hK4
 refine mv_ ?_
 refine mv_ ?_
 refine mv_ ?_
 obtain ⟨t16, ha17, H⟩ := bind_some H
 refine c_ func66 (imatri.runs k b0 (⟨t5.2.f0, t5.2.f1, t5.2.f2⟩ : S67) a1 a1 _ t16.1 t16.2 _ _ HS.b (HS.nodupM 2 rfl) (HS.boundM 2 rfl) (HS.mu 2 rfl) ha17) ?_
 clear ha17
 rintro _ w18 ⟨A19, c20, A23, c24, rfl, le21, hf22, le25, hf26, hbx_, hrest_, hB1_⟩
 replace HS := HS.newM 2 rfl hB1_ hrest_ hbx_ (foot_cons hf22 (foot_cons hf26 foot_nil))
 dsimp only [List.set] at HS
 exact by (
 clear hB1_ hrest_ hbx_
 refine ⟨_, rfl, ?_⟩
 refine v_ (fa_ underlying52) ?_
 refine WL.storeS HS 0 rfl rfl rfl rfl rfl rfl (oneL rfl) (by kernel_rfl) (ble_ rfl) (cs' := #[.slice A8 t5.1.length c9, vi t16.1.f0, .slice A19 t16.1.f1.length c20, .slice A23 t16.1.f2.length c24, vi t16.1.f3, vi t16.1.f4, vi 0, sn, sn, vi 0, vi 0, vi 0, sn, sn, vi 0, vi 0, vi 0, sn, sn, vi 0, vi 0, sn, vi 0, sn, sn, vi 0, vi 0, vi 0, sn, sn, vi 0, vi 0]) (by kernel_rfl) (fun w27 HS => ?_)
 dsimp only [List.set] at HS
 refine dn_ hK15 (sr_ fun _ hK28 => ?_)
 clear hK15
 refine mv_ ?_
 refine mv_ ?_
 refine mv_ ?_
 obtain ⟨t29, ha30, H⟩ := bind_some H
 refine c_ func66 (imatri.runs k b0 (⟨t16.2.f0, t16.2.f1, t16.2.f2⟩ : S67) a1 a1 _ t29.1 t29.2 _ _ HS.b (HS.nodupM 2 rfl) (HS.boundM 2 rfl) (HS.mu 2 rfl) ha30) ?_
 clear ha30
 rintro _ w31 ⟨A32, c33, A36, c37, rfl, le34, hf35, le38, hf39, hbx_, hrest_, hB1_⟩
 replace HS := HS.newM 2 rfl hB1_ hrest_ hbx_ (foot_cons hf35 (foot_cons hf39 foot_nil))
 dsimp only [List.set] at HS
 exact by (
 clear hB1_ hrest_ hbx_
 refine ⟨_, rfl, ?_⟩
 refine v_ (fa_ underlying52) ?_
 refine WL.storeS HS 0 rfl rfl rfl rfl rfl rfl (oneL rfl) (by kernel_rfl) (ble_ rfl) (cs' := #[.slice A8 t5.1.length c9, vi t16.1.f0, .slice A19 t16.1.f1.length c20, .slice A23 t16.1.f2.length c24, vi t16.1.f3, vi t16.1.f4, vi t29.1.f0, .slice A32 t29.1.f1.length c33, .slice A36 t29.1.f2.length c37, vi t29.1.f3, vi t29.1.f4, vi 0, sn, sn, vi 0, vi 0, vi 0, sn, sn, vi 0, vi 0, sn, vi 0, sn, sn, vi 0, vi 0, vi 0, sn, sn, vi 0, vi 0]) (by kernel_rfl) (fun w40 HS => ?_)
 dsimp only [List.set] at HS
 refine dn_ hK28 (sr_ fun _ hK41 => ?_)
 clear hK28
 refine mv_ ?_
 refine mv_ ?_
 refine mv_ ?_
 obtain ⟨t42, ha43, H⟩ := bind_some H
 refine c_ func66 (imatri.runs k b0 (⟨t29.2.f0, t29.2.f1, t29.2.f2⟩ : S67) a1 a1 _ t42.1 t42.2 _ _ HS.b (HS.nodupM 2 rfl) (HS.boundM 2 rfl) (HS.mu 2 rfl) ha43) ?_
 clear ha43
 rintro _ w44 ⟨A45, c46, A49, c50, rfl, le47, hf48, le51, hf52, hbx_, hrest_, hB1_⟩
 replace HS := HS.newM 2 rfl hB1_ hrest_ hbx_ (foot_cons hf48 (foot_cons hf52 foot_nil))
 dsimp only [List.set] at HS
 exact by (
 clear hB1_ hrest_ hbx_
 refine ⟨_, rfl, ?_⟩
 refine v_ (fa_ underlying52) ?_
 refine WL.storeS HS 0 rfl rfl rfl rfl rfl rfl (oneL rfl) (by kernel_rfl) (ble_ rfl) (cs' := #[.slice A8 t5.1.length c9, vi t16.1.f0, .slice A19 t16.1.f1.length c20, .slice A23 t16.1.f2.length c24, vi t16.1.f3, vi t16.1.f4, vi t29.1.f0, .slice A32 t29.1.f1.length c33, .slice A36 t29.1.f2.length c37, vi t29.1.f3, vi t29.1.f4, vi t42.1.f0, .slice A45 t42.1.f1.length c46, .slice A49 t42.1.f2.length c50, vi t42.1.f3, vi t42.1.f4, vi 0, sn, sn, vi 0, vi 0, sn, vi 0, sn, sn, vi 0, vi 0, vi 0, sn, sn, vi 0, vi 0]) (by kernel_rfl) (fun w53 HS => ?_)
 dsimp only [List.set] at HS
 refine dn_ hK41 (sr_ fun _ hK54 => ?_)
 clear hK41
 refine mv_ ?_
 refine mv_ ?_
 refine mv_ ?_
 obtain ⟨t55, ha56, H⟩ := bind_some H
 refine c_ func66 (imatri.runs k b0 (⟨t42.2.f0, t42.2.f1, t42.2.f2⟩ : S67) a1 a1 _ t55.1 t55.2 _ _ HS.b (HS.nodupM 2 rfl) (HS.boundM 2 rfl) (HS.mu 2 rfl) ha56) ?_
 clear ha56
 rintro _ w57 ⟨A58, c59, A62, c63, rfl, le60, hf61, le64, hf65, hbx_, hrest_, hB1_⟩
 replace HS := HS.newM 2 rfl hB1_ hrest_ hbx_ (foot_cons hf61 (foot_cons hf65 foot_nil))
 dsimp only [List.set] at HS
 exact by (
 clear hB1_ hrest_ hbx_
 refine ⟨_, rfl, ?_⟩
 refine v_ (fa_ underlying52) ?_
 refine WL.storeS HS 0 rfl rfl rfl rfl rfl rfl (oneL rfl) (by kernel_rfl) (ble_ rfl) (cs' := #[.slice A8 t5.1.length c9, vi t16.1.f0, .slice A19 t16.1.f1.length c20, .slice A23 t16.1.f2.length c24, vi t16.1.f3, vi t16.1.f4, vi t29.1.f0, .slice A32 t29.1.f1.length c33, .slice A36 t29.1.f2.length c37, vi t29.1.f3, vi t29.1.f4, vi t42.1.f0, .slice A45 t42.1.f1.length c46, .slice A49 t42.1.f2.length c50, vi t42.1.f3, vi t42.1.f4, vi t55.1.f0, .slice A58 t55.1.f1.length c59, .slice A62 t55.1.f2.length c63, vi t55.1.f3, vi t55.1.f4, sn, vi 0, sn, sn, vi 0, vi 0, vi 0, sn, sn, vi 0, vi 0]) (by kernel_rfl) (fun w66 HS => ?_)
 dsimp only [List.set] at HS
 refine dn_ hK54 (sr_ fun _ hK67 => ?_)
 clear hK54
 refine mv_ ?_
 refine mv_ ?_
 obtain ⟨t68, ha69, H⟩ := bind_some H
 refine c_ func64 (ilist.runs k b0 (⟨t55.2.f0, t55.2.f1, t55.2.f2⟩ : S67) a1 1 0 _ t68.1 t68.2 _ _ HS.b (HS.nodupM 2 rfl) (HS.boundM 2 rfl) (HS.mu 2 rfl) ha69) ?_
 clear ha69
 rintro _ w70 ⟨A71, c72, rfl, le73, hf74, hbx_, hrest_, hB1_⟩
 replace HS := HS.newM 2 rfl hB1_ hrest_ hbx_ (foot_cons hf74 foot_nil)
 dsimp only [List.set] at HS
 clear hB1_ hrest_ hbx_
 exact by (
 refine ⟨_, rfl, ?_⟩
 refine v_ (fa_ underlying52) ?_
 refine WL.store HS 0 rfl rfl rfl rfl rfl rfl rfl (by kernel_rfl) (ble_ rfl) (cs' := #[.slice A8 t5.1.length c9, vi t16.1.f0, .slice A19 t16.1.f1.length c20, .slice A23 t16.1.f2.length c24, vi t16.1.f3, vi t16.1.f4, vi t29.1.f0, .slice A32 t29.1.f1.length c33, .slice A36 t29.1.f2.length c37, vi t29.1.f3, vi t29.1.f4, vi t42.1.f0, .slice A45 t42.1.f1.length c46, .slice A49 t42.1.f2.length c50, vi t42.1.f3, vi t42.1.f4, vi t55.1.f0, .slice A58 t55.1.f1.length c59, .slice A62 t55.1.f2.length c63, vi t55.1.f3, vi t55.1.f4, .slice A71 t68.1.length c72, vi 0, sn, sn, vi 0, vi 0, vi 0, sn, sn, vi 0, vi 0]) (by kernel_rfl) (fun w75 HS => ?_)
 dsimp only [List.set] at HS
 refine dn_ hK67 (sr_ fun _ hK76 => ?_)
 clear hK67
 refine mv_ ?_
 refine mv_ ?_
 refine mv_ ?_
 obtain ⟨t77, ha78, H⟩ := bind_some H
 refine c_ func66 (imatri.runs k b0 (⟨t68.2.f0, t68.2.f1, t68.2.f2⟩ : S67) a1 a2 _ t77.1 t77.2 _ _ HS.b (HS.nodupM 2 rfl) (HS.boundM 2 rfl) (HS.mu 2 rfl) ha78) ?_
 clear ha78
 rintro _ w79 ⟨A80, c81, A84, c85, rfl, le82, hf83, le86, hf87, hbx_, hrest_, hB1_⟩
 replace HS := HS.newM 2 rfl hB1_ hrest_ hbx_ (foot_cons hf83 (foot_cons hf87 foot_nil))
 dsimp only [List.set] at HS
 clear hB1_ hrest_ hbx_
 exact by (
 refine ⟨_, rfl, ?_⟩
 refine v_ (fa_ underlying52) ?_
 refine WL.storeS HS 0 rfl rfl rfl rfl rfl rfl (oneL rfl) (by kernel_rfl) (ble_ rfl) (cs' := #[.slice A8 t5.1.length c9, vi t16.1.f0, .slice A19 t16.1.f1.length c20, .slice A23 t16.1.f2.length c24, vi t16.1.f3, vi t16.1.f4, vi t29.1.f0, .slice A32 t29.1.f1.length c33, .slice A36 t29.1.f2.length c37, vi t29.1.f3, vi t29.1.f4, vi t42.1.f0, .slice A45 t42.1.f1.length c46, .slice A49 t42.1.f2.length c50, vi t42.1.f3, vi t42.1.f4, vi t55.1.f0, .slice A58 t55.1.f1.length c59, .slice A62 t55.1.f2.length c63, vi t55.1.f3, vi t55.1.f4, .slice A71 t68.1.length c72, vi t77.1.f0, .slice A80 t77.1.f1.length c81, .slice A84 t77.1.f2.length c85, vi t77.1.f3, vi t77.1.f4, vi 0, sn, sn, vi 0, vi 0]) (by kernel_rfl) (fun w88 HS => ?_)
 dsimp only [List.set] at HS
 refine dn_ hK76 (sr_ fun _ hK89 => ?_)
 clear hK76
 refine mv_ ?_
 refine mv_ ?_
 refine mv_ ?_
 obtain ⟨t90, ha91, H⟩ := bind_some H
 refine c_ func66 (imatri.runs k b0 (⟨t77.2.f0, t77.2.f1, t77.2.f2⟩ : S67) a2 a1 _ t90.1 t90.2 _ _ HS.b (HS.nodupM 2 rfl) (HS.boundM 2 rfl) (HS.mu 2 rfl) ha91) ?_
 clear ha91
 rintro _ w92 ⟨A93, c94, A97, c98, rfl, le95, hf96, le99, hf100, hbx_, hrest_, hB1_⟩
 replace HS := HS.newM 2 rfl hB1_ hrest_ hbx_ (foot_cons hf96 (foot_cons hf100 foot_nil))
 dsimp only [List.set] at HS
 clear hB1_ hrest_ hbx_
 exact by (
 refine ⟨_, rfl, ?_⟩
 refine v_ (fa_ underlying52) ?_
 refine WL.storeS HS 0 rfl rfl rfl rfl rfl rfl (oneL rfl) (by kernel_rfl) (ble_ rfl) (cs' := #[.slice A8 t5.1.length c9, vi t16.1.f0, .slice A19 t16.1.f1.length c20, .slice A23 t16.1.f2.length c24, vi t16.1.f3, vi t16.1.f4, vi t29.1.f0, .slice A32 t29.1.f1.length c33, .slice A36 t29.1.f2.length c37, vi t29.1.f3, vi t29.1.f4, vi t42.1.f0, .slice A45 t42.1.f1.length c46, .slice A49 t42.1.f2.length c50, vi t42.1.f3, vi t42.1.f4, vi t55.1.f0, .slice A58 t55.1.f1.length c59, .slice A62 t55.1.f2.length c63, vi t55.1.f3, vi t55.1.f4, .slice A71 t68.1.length c72, vi t77.1.f0, .slice A80 t77.1.f1.length c81, .slice A84 t77.1.f2.length c85, vi t77.1.f3, vi t77.1.f4, vi t90.1.f0, .slice A93 t90.1.f1.length c94, .slice A97 t90.1.f2.length c98, vi t90.1.f3, vi t90.1.f4]) (by kernel_rfl) (fun w101 HS => ?_)
 dsimp only [List.set] at HS
 refine dn_ hK89 (sr_ fun _ hK102 => ?_)
 clear hK89
 refine v_ (ls_ (HS.mu 0 rfl) underlying52 part_all) ?_
 refine WL.storeW HS 1 rfl rfl rfl rfl rfl rfl (oneL rfl) (by kernel_rfl) rfl (fun w103 HS => ?_)
 dsimp only [List.set] at HS
 refine dn_ hK102 (WC.ret ?_)
 clear hK102
 replace HS := HS.deriveN (p := (kF k52 (⟨t5.1, (⟨t16.1.f0, t16.1.f1, t16.1.f2, t16.1.f3, t16.1.f4⟩ : S29), (⟨t29.1.f0, t29.1.f1, t29.1.f2, t29.1.f3, t29.1.f4⟩ : S29), (⟨t42.1.f0, t42.1.f1, t42.1.f2, t42.1.f3, t42.1.f4⟩ : S29), (⟨t55.1.f0, t55.1.f1, t55.1.f2, t55.1.f3, t55.1.f4⟩ : S29), t68.1, (⟨t77.1.f0, t77.1.f1, t77.1.f2, t77.1.f3, t77.1.f4⟩ : S29), (⟨t90.1.f0, t90.1.f1, t90.1.f2, t90.1.f3, t90.1.f4⟩ : S29)⟩ : S52) [.slice A8 t5.1.length c9, vi t16.1.f0, .slice A19 t16.1.f1.length c20, .slice A23 t16.1.f2.length c24, vi t16.1.f3, vi t16.1.f4, vi t29.1.f0, .slice A32 t29.1.f1.length c33, .slice A36 t29.1.f2.length c37, vi t29.1.f3, vi t29.1.f4, vi t42.1.f0, .slice A45 t42.1.f1.length c46, .slice A49 t42.1.f2.length c50, vi t42.1.f3, vi t42.1.f4, vi t55.1.f0, .slice A58 t55.1.f1.length c59, .slice A62 t55.1.f2.length c63, vi t55.1.f3, vi t55.1.f4, .slice A71 t68.1.length c72, vi t77.1.f0, .slice A80 t77.1.f1.length c81, .slice A84 t77.1.f2.length c85, vi t77.1.f3, vi t77.1.f4, vi t90.1.f0, .slice A93 t90.1.f1.length c94, .slice A97 t90.1.f2.length c98, vi t90.1.f3, vi t90.1.f4])) (fun W_ hN_ => (k52_mk _ (⟨t5.1, (⟨t16.1.f0, t16.1.f1, t16.1.f2, t16.1.f3, t16.1.f4⟩ : S29), (⟨t29.1.f0, t29.1.f1, t29.1.f2, t29.1.f3, t29.1.f4⟩ : S29), (⟨t42.1.f0, t42.1.f1, t42.1.f2, t42.1.f3, t42.1.f4⟩ : S29), (⟨t55.1.f0, t55.1.f1, t55.1.f2, t55.1.f3, t55.1.f4⟩ : S29), t68.1, (⟨t77.1.f0, t77.1.f1, t77.1.f2, t77.1.f3, t77.1.f4⟩ : S29), (⟨t90.1.f0, t90.1.f1, t90.1.f2, t90.1.f3, t90.1.f4⟩ : S29)⟩ : S52) (le10) hN_.2.2.2.2.2.2.2.2.2.2.2.2.2.1 (le21) hN_.2.2.2.2.2.2.2.2.2.2.2.1 (le25) hN_.2.2.2.2.2.2.2.2.2.2.2.2.1 (le34) hN_.2.2.2.2.2.2.2.2.2.1 (le38) hN_.2.2.2.2.2.2.2.2.2.2.1 (le47) hN_.2.2.2.2.2.2.2.1 (le51) hN_.2.2.2.2.2.2.2.2.1 (le60) hN_.2.2.2.2.2.1 (le64) hN_.2.2.2.2.2.2.1 (le73) hN_.2.2.2.2.1 (le82) hN_.2.2.1 (le86) hN_.2.2.2.1 (le95) hN_.1 (le99) hN_.2.1))
 obtain ⟨rfl, rfl⟩ := Prod.mk.inj (os H)
 have HSf := (St.forget (St.forget HS 1 rfl) 0 rfl)
 exact fin1 Try.f65 rfl ⟨_, rfl, resv_box (HS.mu 1 rfl) underlying52 rfl (by kernel_rfl)⟩ hR_ ⟨_, rfl, (foot_freshM (HSf.footN 0 rfl)), (HSf.mu 0 rfl), (rest_of (HSf.getO 0 rfl) (HSf.mu 1 rfl)), HSf.b⟩ ))))))))
def imodel.b4 (x1 : S61) (rec_ : Int → ByteArray → Int → Bool → (List S54) → Option (Int × ByteArray × Int × Bool × (List S54))) (k240 : Nat) (i16 : Int) (s17 : ByteArray) (i18 : Int) (u19 : Bool) (xs20 : List S54) : Option (Int × ByteArray × Int × Bool × (List S54)) := (if i16 < x1.f3 then ((iwide1.g k240 (⟨s17, i18, u19⟩ : S67) 2).bind fun t246 => ((iwide1.g k240 (⟨t246.2.f0, t246.2.f1, t246.2.f2⟩ : S67) 2).bind fun t252 => (if (xs20.length) < 4294967296 then (rec_ (wrap64 (i16 + 1)) t252.2.f0 t252.2.f1 t252.2.f2 (xs20 ++ [(⟨t246.1, t252.1⟩ : S54)])) else none))) else (some (i16, s17, i18, u19, xs20)))
def imodel.l4 (x1 : S61) : Nat → Int → ByteArray → Int → Bool → (List S54) → Option (Int × ByteArray × Int × Bool × (List S54))
 | 0, _, _, _, _, _ => none
 | k + 1, i16, s17, i18, u19, xs20 => imodel.b4 x1 (imodel.l4 x1 k) k i16 s17 i18 u19 xs20
def imodel.b3 (x1 : S61) (rec_ : Int → ByteArray → Int → Bool → (List (List Int)) → Option (Int × ByteArray × Int × Bool × (List (List Int)))) (k215 : Nat) (i32 : Int) (s33 : ByteArray) (i34 : Int) (u35 : Bool) (xs36 : List (List Int)) : Option (Int × ByteArray × Int × Bool × (List (List Int))) := (if i32 < (wrap64 (256 + x1.f3)) then ((ilist.g k215 (⟨s33, i34, u35⟩ : S67) x1.f0 1 128).bind fun t223 => (if (xs36.length) < 4294967296 then (rec_ (wrap64 (i32 + 1)) t223.2.f0 t223.2.f1 t223.2.f2 (xs36 ++ [t223.1])) else none)) else (some (i32, s33, i34, u35, xs36)))
def imodel.l3 (x1 : S61) : Nat → Int → ByteArray → Int → Bool → (List (List Int)) → Option (Int × ByteArray × Int × Bool × (List (List Int)))
 | 0, _, _, _, _, _ => none
 | k + 1, i32, s33, i34, u35, xs36 => imodel.b3 x1 (imodel.l3 x1 k) k i32 s33 i34 u35 xs36
def imodel.b2 (x1 : S61) (rec_ : Int → ByteArray → Int → Bool → (List S52) → Option (Int × ByteArray × Int × Bool × (List S52))) (k187 : Nat) (i48 : Int) (s49 : ByteArray) (i50 : Int) (u51 : Bool) (xs52 : List S52) : Option (Int × ByteArray × Int × Bool × (List S52)) := (if i48 < (x1.f5.length : Int) then (if 0 ≤ i48 ∧ i48 < (x1.f5.length : Int) then ((impl_fileReader_layer.g k187 (⟨s49, i50, u51⟩ : S67) x1.f0 (x1.f5.getD i48.toNat 0)).bind fun t199 => (if (xs52.length) < 4294967296 then (rec_ (wrap64 (i48 + 1)) t199.2.f0 t199.2.f1 t199.2.f2 (xs52 ++ [t199.1])) else none)) else none) else (some (i48, s49, i50, u51, xs52)))
def imodel.l2 (x1 : S61) : Nat → Int → ByteArray → Int → Bool → (List S52) → Option (Int × ByteArray × Int × Bool × (List S52))
 | 0, _, _, _, _, _ => none
 | k + 1, i48, s49, i50, u51, xs52 => imodel.b2 x1 (imodel.l2 x1 k) k i48 s49 i50 u51 xs52
def imodel.b1 (x1 : S61) (rec_ : Int → ByteArray → Int → Bool → (List (List Int)) → Option (Int × ByteArray × Int × Bool × (List (List Int)))) (k159 : Nat) (i86 : Int) (s87 : ByteArray) (i88 : Int) (u89 : Bool) (xs90 : List (List Int)) : Option (Int × ByteArray × Int × Bool × (List (List Int))) := (if i86 < x1.f2 then ((ipairs.g k159 (⟨x1.f0, x1.f1, x1.f2, x1.f3, x1.f4, x1.f5, x1.f6⟩ : S61)).bind fun t167 => ((ilist.g k159 (⟨s87, i88, u89⟩ : S67) t167 2 128).bind fun t170 => (if (xs90.length) < 4294967296 then (rec_ (wrap64 (i86 + 1)) t170.2.f0 t170.2.f1 t170.2.f2 (xs90 ++ [t170.1])) else none))) else (some (i86, s87, i88, u89, xs90)))
def imodel.l1 (x1 : S61) : Nat → Int → ByteArray → Int → Bool → (List (List Int)) → Option (Int × ByteArray × Int × Bool × (List (List Int)))
 | 0, _, _, _, _, _ => none
 | k + 1, i86, s87, i88, u89, xs90 => imodel.b1 x1 (imodel.l1 x1 k) k i86 s87 i88 u89 xs90
def imodel.b0 (x1 : S61) (rec_ : Int → ByteArray → Int → Bool → (List (List Int)) → Option (Int × ByteArray × Int × Bool × (List (List Int)))) (k131 : Nat) (i102 : Int) (s103 : ByteArray) (i104 : Int) (u105 : Bool) (xs106 : List (List Int)) : Option (Int × ByteArray × Int × Bool × (List (List Int))) := (if i102 < x1.f2 then ((ipairs.g k131 (⟨x1.f0, x1.f1, x1.f2, x1.f3, x1.f4, x1.f5, x1.f6⟩ : S61)).bind fun t139 => ((ilist.g k131 (⟨s103, i104, u105⟩ : S67) t139 2 128).bind fun t142 => (if (xs106.length) < 4294967296 then (rec_ (wrap64 (i102 + 1)) t142.2.f0 t142.2.f1 t142.2.f2 (xs106 ++ [t142.1])) else none))) else (some (i102, s103, i104, u105, xs106)))
def imodel.l0 (x1 : S61) : Nat → Int → ByteArray → Int → Bool → (List (List Int)) → Option (Int × ByteArray × Int × Bool × (List (List Int)))
 | 0, _, _, _, _, _ => none
 | k + 1, i102, s103, i104, u105, xs106 => imodel.b0 x1 (imodel.l0 x1 k) k i102 s103 i104 u105 xs106
def imodel.g (k : Nat) (x0 : S67) (x1 : S61) : Option (S33 × S67) := ((imodel.l4 x1 k 0 x0.f0 x0.f1 x0.f2 ([] : List S54)).bind (fun oc238 => ((imodel.l3 x1 k 0 oc238.2.1 oc238.2.2.1 oc238.2.2.2.1 ([] : List (List Int))).bind (fun oc213 => ((imodel.l2 x1 k 0 oc213.2.1 oc213.2.2.1 oc213.2.2.2.1 ([] : List S52)).bind (fun oc185 => ((ilist.g k (⟨oc185.2.1, oc185.2.2.1, oc185.2.2.2.1⟩ : S67) x1.f0 1 0).bind fun t59 => ((imatri.g k (⟨t59.2.f0, t59.2.f1, t59.2.f2⟩ : S67) x1.f0 (wrap64 (256 + x1.f3))).bind fun t68 => ((imodel.l1 x1 k 0 t68.2.f0 t68.2.f1 t68.2.f2 ([] : List (List Int))).bind (fun oc157 => ((imodel.l0 x1 k 0 oc157.2.1 oc157.2.2.1 oc157.2.2.2.1 ([] : List (List Int))).bind (fun oc129 => (some ((⟨x1.f0, x1.f1, x1.f2, oc238.2.2.2.2, oc213.2.2.2.2, oc185.2.2.2.2, t59.1, (⟨t68.1.f0, t68.1.f1, t68.1.f2, t68.1.f3, t68.1.f4⟩ : S29), (⟨oc157.2.2.2.2, oc129.2.2.2.2⟩ : S31)⟩ : S33), (⟨oc129.2.1, oc129.2.2.1, oc129.2.2.2.1⟩ : S67)))))))))))))))
theorem imodel.runs (k : Nat) (b0 : Nat) (x0 : S67) (x1 : S61) (A1_5 : Option Addr) (c1_5 : Nat) (bs_ : List Nat) (r1 : S33) (y_ : S67) (w0 w : World) (hB_ : Below w0.heap.size w0 w) (hn_ : (b0 :: bs_).Nodup) (hl_ : ∀ k, k ∈ b0 :: bs_ → w0.heap.size ≤ k ∧ k < w.heap.size) (hb0 : w.heap[b0]? = some (.cells #[.string x0.f0, vi x0.f1, .bool x0.f2] 67 (0, 0))) (hr1_5 : Foot (cF kI A1_5 x1.f5) w (fun k_ => k_ ∉ b0 :: bs_)) (hc1_5 : x1.f5.length ≤ c1_5) (H : imodel.g k x0 x1 = some (r1, y_)) :
   Calls prog 25 #[.pointer (some ⟨b0, 0, none⟩), .agg #[vi x1.f0, vi x1.f1, vi x1.f2, vi x1.f3, vi x1.f4, .slice A1_5 x1.f5.length c1_5, vi x1.f6]] w fun e w' => ∃ (cs0_ : List Value), e = .returned (.agg cs0_.toArray) ∧ Foot (kF k33 r1 cs0_) w' (fun k_ => w0.heap.size ≤ k_ ∧ k_ ∉ b0 :: bs_) ∧ w'.heap[b0]? = some (.cells #[.string y_.f0, vi y_.f1, .bool y_.f2] 67 (0, 0)) ∧ RestOf w w' b0 ∧ Below w0.heap.size w0 w' := by
 unfold imodel.g at H
 have HS : St (fun _ => True) w0 w [boxM b0 #[.string x0.f0, vi x0.f1, .bool x0.f2] 67, keepM w bs_] [(frameF w b0 bs_), (cF kI A1_5 x1.f5)] [] := St.startM hB_ hn_ hl_ hb0 (foot_cons hr1_5 foot_nil)
 refine cw_ (n := 111) func25 fun R_ hR_ => ?_
 refine sr_ fun _ hK1 => ?_
 refine bo_ HS (fun b2 w3 hb2 HS => ?_)
 refine WL.alloc HS (v := .agg zz1) (cs := zz1) rfl rfl (by decide) rfl (by kernel_rfl) rfl (fun b4 w5 hb4 HS => ?_)
 refine dn_ hK1 (sr_ fun _ hK6 => ?_)
 clear hK1
 refine v_ (fa_ underlying61) ?_
 refine v_ (lb_ (HS.mu 1 rfl) underlying3 rfl) ?_
 refine v_ (fa_ underlying61) ?_
 refine v_ (lb_ (HS.mu 1 rfl) underlying3 rfl) ?_
 refine v_ (fa_ underlying61) ?_
 refine v_ (lb_ (HS.mu 1 rfl) underlying3 rfl) ?_
 refine v_ (Run.build (cells := #[vi x1.f0, vi x1.f1, vi x1.f2, sn, sn, sn, sn, vi 0, sn, sn, vi 0, vi 0, sn, sn]) rfl [(0, vi x1.f0), (1, vi x1.f1), (2, vi x1.f2)] ⟨⟨rfl, rfl⟩, ⟨⟨rfl, rfl⟩, ⟨⟨rfl, rfl⟩, trivial⟩⟩⟩ (by kernel_rfl)) ?_
 refine WL.alloc HS (v := .agg zz1) (cs := zz1) rfl rfl (by decide) rfl (by kernel_rfl) rfl (fun b7 w8 hb7 HS => ?_)
 exact by (
 refine WL.storeW HS 0 rfl rfl rfl rfl rfl rfl (oneL rfl) (by kernel_rfl) rfl (fun w9 HS => ?_)
 dsimp only [List.set] at HS
 refine dn_ hK6 (WC.seq fun K10 hK10 => ?_)
 clear hK6
 refine sr_ fun _ hK11 => ?_
 refine v_ (fa_ underlying61) ?_
 refine v_ (lb_ (HS.mu 2 rfl) underlying3 rfl) ?_
 refine mv_ ?_
 refine dn_ hK11 (WC.block ?_)
 clear hK11
 replace HS := HS.rowNil 54 2
 replace HS := HS.deriveN (p := (rF k54 ([] : List S54) [])) (fun _ _ => Reps.none _ _)
 obtain ⟨G12, hG13, oc14, H, Ho15⟩ := open_G H
 let J23 := fun (i16 : Int) (s17 : ByteArray) (i18 : Int) (u19 : Bool) (xs20 : List S54) v21 I22 (E_ : Env) (W_ : World) => E_ = [(0, .pointer (some ⟨b0, 0, none⟩)), (3, .pointer (some ⟨b2, 0, none⟩)), (4, .pointer (some ⟨b4, 0, none⟩)), (5, .pointer (some ⟨b7, 0, none⟩)), (17, vi x1.f3), (18, vi i16)] ∧ St (fun _ => True) w0 W_ [rowM w0.heap.size 54 2 v21 xs20.length I22, boxM b7 #[vi x1.f0, vi x1.f1, vi x1.f2, v21, sn, sn, sn, vi 0, sn, sn, vi 0, vi 0, sn, sn] 33, boxM b4 zz1 33, boxM b2 #[vi x1.f0, vi x1.f1, vi x1.f2, vi x1.f3, vi x1.f4, .slice A1_5 x1.f5.length c1_5, vi x1.f6] 61, boxM b0 #[.string s17, vi i18, .bool u19] 67, keepM w bs_] [(frameF w b0 bs_), (cF kI A1_5 x1.f5)] [(rF k54 xs20 I22)]
 have X24 : ∀ E_ W_, (∃ i16 s17 i18 u19 xs20 v21 I22, G12 (i16, s17, i18, u19, xs20) = some (r1, y_) ∧ J23 i16 s17 i18 u19 xs20 v21 I22 E_ W_) → ∀ a, Fits a 111 E_ → K10 a W_ := by
   rintro E_ w25 ⟨i16, s17, i18, u19, xs20, v21, I22, H, rfl, HS⟩
   exact by (
   rw [hG13] at H
   (try dsimp only at H)
   refine hK10 _ _ ?_
   clear hK10
   refine WC.seq fun K26 hK26 => ?_
   refine sr_ fun _ hK27 => ?_
   refine v_ (fa_ underlying61) ?_
   refine v_ (lb_ (HS.mu 3 rfl) underlying3 rfl) ?_
   refine b_ bin_add64 ?_
   refine mv_ ?_
   refine dn_ hK27 (WC.block ?_)
   clear hK27
   replace HS := HS.rowNil 27 1
   replace HS := HS.deriveN (p := (rF kS3 ([] : List (List Int)) [])) (fun _ _ => Reps.none _ _)
   obtain ⟨G28, hG29, oc30, H, Ho31⟩ := open_G H
   let J39 := fun (i32 : Int) (s33 : ByteArray) (i34 : Int) (u35 : Bool) (xs36 : List (List Int)) v37 I38 (E_ : Env) (W_ : World) => E_ = [(0, .pointer (some ⟨b0, 0, none⟩)), (3, .pointer (some ⟨b2, 0, none⟩)), (4, .pointer (some ⟨b4, 0, none⟩)), (5, .pointer (some ⟨b7, 0, none⟩)), (34, vi (wrap64 (256 + x1.f3))), (35, vi i32)] ∧ St (fun _ => True) w0 W_ [rowM w0.heap.size 27 1 v37 xs36.length I38, rowM w0.heap.size 54 2 v21 xs20.length I22, boxM b7 #[vi x1.f0, vi x1.f1, vi x1.f2, v21, v37, sn, sn, vi 0, sn, sn, vi 0, vi 0, sn, sn] 33, boxM b4 zz1 33, boxM b2 #[vi x1.f0, vi x1.f1, vi x1.f2, vi x1.f3, vi x1.f4, .slice A1_5 x1.f5.length c1_5, vi x1.f6] 61, boxM b0 #[.string s33, vi i34, .bool u35] 67, keepM w bs_] [(frameF w b0 bs_), (cF kI A1_5 x1.f5)] [(rF kS3 xs36 I38), (rF k54 xs20 I22)]
   exact by (
   have X40 : ∀ E_ W_, (∃ i32 s33 i34 u35 xs36 v37 I38, G28 (i32, s33, i34, u35, xs36) = some (r1, y_) ∧ J39 i32 s33 i34 u35 xs36 v37 I38 E_ W_) → ∀ a, Fits a 111 E_ → K26 a W_ := by
     rintro E_ w41 ⟨i32, s33, i34, u35, xs36, v37, I38, H, rfl, HS⟩
     rw [hG29] at H
     (try dsimp only at H)
     refine hK26 _ _ ?_
     clear hK26
     refine WC.seq fun K42 hK42 => ?_
     refine sr_ fun _ hK43 => ?_
     refine v_ (fa_ underlying61) ?_
     refine v_ (lb_ (HS.mu 4 rfl) underlying27 rfl) ?_
     refine ln_ underlying27 ?_
     refine mv_ ?_
     refine dn_ hK43 (WC.block ?_)
     clear hK43
     replace HS := HS.rowNil 52 32
     replace HS := HS.deriveN (p := (rF k52 ([] : List S52) [])) (fun _ _ => Reps.none _ _)
     exact by (
     obtain ⟨G44, hG45, oc46, H, Ho47⟩ := open_G H
     let J55 := fun (i48 : Int) (s49 : ByteArray) (i50 : Int) (u51 : Bool) (xs52 : List S52) v53 I54 (E_ : Env) (W_ : World) => E_ = [(0, .pointer (some ⟨b0, 0, none⟩)), (3, .pointer (some ⟨b2, 0, none⟩)), (4, .pointer (some ⟨b4, 0, none⟩)), (5, .pointer (some ⟨b7, 0, none⟩)), (48, .slice A1_5 x1.f5.length c1_5), (49, vi (x1.f5.length : Int)), (50, vi i48)] ∧ St (fun _ => True) w0 W_ [rowM w0.heap.size 52 32 v53 xs52.length I54, rowM w0.heap.size 27 1 v37 xs36.length I38, rowM w0.heap.size 54 2 v21 xs20.length I22, boxM b7 #[vi x1.f0, vi x1.f1, vi x1.f2, v21, v37, v53, sn, vi 0, sn, sn, vi 0, vi 0, sn, sn] 33, boxM b4 zz1 33, boxM b2 #[vi x1.f0, vi x1.f1, vi x1.f2, vi x1.f3, vi x1.f4, .slice A1_5 x1.f5.length c1_5, vi x1.f6] 61, boxM b0 #[.string s49, vi i50, .bool u51] 67, keepM w bs_] [(frameF w b0 bs_), (cF kI A1_5 x1.f5)] [(rF k52 xs52 I54), (rF kS3 xs36 I38), (rF k54 xs20 I22)]
     have X56 : ∀ E_ W_, (∃ i48 s49 i50 u51 xs52 v53 I54, G44 (i48, s49, i50, u51, xs52) = some (r1, y_) ∧ J55 i48 s49 i50 u51 xs52 v53 I54 E_ W_) → ∀ a, Fits a 111 E_ → K42 a W_ := by
       rintro E_ w57 ⟨i48, s49, i50, u51, xs52, v53, I54, H, rfl, HS⟩
       rw [hG45] at H
       (try dsimp only at H)
       refine hK42 _ _ ?_
       clear hK42
       refine sr_ fun _ hK58 => ?_
       refine mv_ ?_
       refine v_ (fa_ underlying61) ?_
       refine v_ (lb_ (HS.mu 5 rfl) underlying3 rfl) ?_
       obtain ⟨t59, ha60, H⟩ := bind_some H
       refine c_ func64 (ilist.runs k b0 (⟨s49, i50, u51⟩ : S67) x1.f0 1 0 _ t59.1 t59.2 _ _ HS.b (HS.nodupM 6 rfl) (HS.boundM 6 rfl) (HS.mu 6 rfl) ha60) ?_
       clear ha60
       rintro _ w61 ⟨A62, c63, rfl, le64, hf65, hbx_, hrest_, hB1_⟩
       exact by (
       replace HS := HS.newM 6 rfl hB1_ hrest_ hbx_ (foot_cons hf65 foot_nil)
       dsimp only [List.set] at HS
       clear hB1_ hrest_ hbx_
       refine ⟨_, rfl, ?_⟩
       refine v_ (fa_ underlying33) ?_
       refine WL.store HS 3 rfl rfl rfl rfl rfl rfl rfl (by kernel_rfl) (ble_ rfl) (cs' := #[vi x1.f0, vi x1.f1, vi x1.f2, v21, v37, v53, .slice A62 t59.1.length c63, vi 0, sn, sn, vi 0, vi 0, sn, sn]) (by kernel_rfl) (fun w66 HS => ?_)
       dsimp only [List.set] at HS
       refine dn_ hK58 (sr_ fun _ hK67 => ?_)
       clear hK58
       refine mv_ ?_
       refine v_ (fa_ underlying61) ?_
       refine v_ (lb_ (HS.mu 5 rfl) underlying3 rfl) ?_
       refine v_ (fa_ underlying61) ?_
       refine v_ (lb_ (HS.mu 5 rfl) underlying3 rfl) ?_
       refine b_ bin_add64 ?_
       obtain ⟨t68, ha69, H⟩ := bind_some H
       exact by (
       refine c_ func66 (imatri.runs k b0 (⟨t59.2.f0, t59.2.f1, t59.2.f2⟩ : S67) x1.f0 (wrap64 (256 + x1.f3)) _ t68.1 t68.2 _ _ HS.b (HS.nodupM 6 rfl) (HS.boundM 6 rfl) (HS.mu 6 rfl) ha69) ?_
       clear ha69
       rintro _ w70 ⟨A71, c72, A75, c76, rfl, le73, hf74, le77, hf78, hbx_, hrest_, hB1_⟩
       replace HS := HS.newM 6 rfl hB1_ hrest_ hbx_ (foot_cons hf74 (foot_cons hf78 foot_nil))
       dsimp only [List.set] at HS
       clear hB1_ hrest_ hbx_
       refine ⟨_, rfl, ?_⟩
       refine v_ (fa_ underlying33) ?_
       refine WL.storeS HS 3 rfl rfl rfl rfl rfl rfl (oneL rfl) (by kernel_rfl) (ble_ rfl) (cs' := #[vi x1.f0, vi x1.f1, vi x1.f2, v21, v37, v53, .slice A62 t59.1.length c63, vi t68.1.f0, .slice A71 t68.1.f1.length c72, .slice A75 t68.1.f2.length c76, vi t68.1.f3, vi t68.1.f4, sn, sn]) (by kernel_rfl) (fun w79 HS => ?_)
       dsimp only [List.set] at HS
       refine dn_ hK67 (WC.seq fun K80 hK80 => ?_)
       clear hK67
       refine sr_ fun _ hK81 => ?_
       refine v_ (fa_ underlying61) ?_
       refine v_ (lb_ (HS.mu 5 rfl) underlying3 rfl) ?_
       refine mv_ ?_
       exact by (
       refine dn_ hK81 (WC.block ?_)
       clear hK81
       replace HS := HS.rowNil 27 1
       replace HS := HS.deriveN (p := (rF kS3 ([] : List (List Int)) [])) (fun _ _ => Reps.none _ _)
       obtain ⟨G82, hG83, oc84, H, Ho85⟩ := open_G H
       let J93 := fun (i86 : Int) (s87 : ByteArray) (i88 : Int) (u89 : Bool) (xs90 : List (List Int)) v91 I92 (E_ : Env) (W_ : World) => E_ = [(0, .pointer (some ⟨b0, 0, none⟩)), (3, .pointer (some ⟨b2, 0, none⟩)), (4, .pointer (some ⟨b4, 0, none⟩)), (5, .pointer (some ⟨b7, 0, none⟩)), (79, vi x1.f2), (80, vi i86)] ∧ St (fun _ => True) w0 W_ [rowM w0.heap.size 27 1 v91 xs90.length I92, rowM w0.heap.size 52 32 v53 xs52.length I54, rowM w0.heap.size 27 1 v37 xs36.length I38, rowM w0.heap.size 54 2 v21 xs20.length I22, boxM b7 #[vi x1.f0, vi x1.f1, vi x1.f2, v21, v37, v53, .slice A62 t59.1.length c63, vi t68.1.f0, .slice A71 t68.1.f1.length c72, .slice A75 t68.1.f2.length c76, vi t68.1.f3, vi t68.1.f4, v91, sn] 33, boxM b4 zz1 33, boxM b2 #[vi x1.f0, vi x1.f1, vi x1.f2, vi x1.f3, vi x1.f4, .slice A1_5 x1.f5.length c1_5, vi x1.f6] 61, boxM b0 #[.string s87, vi i88, .bool u89] 67, keepM w bs_] [(frameF w b0 bs_), (cF kI A1_5 x1.f5)] [(rF kS3 xs90 I92), (cF kS3 A71 t68.1.f1), (cF kS3 A75 t68.1.f2), (cF kI A62 t59.1), (rF k52 xs52 I54), (rF kS3 xs36 I38), (rF k54 xs20 I22)]
       have X94 : ∀ E_ W_, (∃ i86 s87 i88 u89 xs90 v91 I92, G82 (i86, s87, i88, u89, xs90) = some (r1, y_) ∧ J93 i86 s87 i88 u89 xs90 v91 I92 E_ W_) → ∀ a, Fits a 111 E_ → K80 a W_ := by
         rintro E_ w95 ⟨i86, s87, i88, u89, xs90, v91, I92, H, rfl, HS⟩
         rw [hG83] at H
         (try dsimp only at H)
         refine hK80 _ _ ?_
         clear hK80
         refine WC.seq fun K96 hK96 => ?_
         refine sr_ fun _ hK97 => ?_
         refine v_ (fa_ underlying61) ?_
         refine v_ (lb_ (HS.mu 6 rfl) underlying3 rfl) ?_
         exact by (
         refine mv_ ?_
         refine dn_ hK97 (WC.block ?_)
         clear hK97
         replace HS := HS.rowNil 27 1
         replace HS := HS.deriveN (p := (rF kS3 ([] : List (List Int)) [])) (fun _ _ => Reps.none _ _)
         obtain ⟨G98, hG99, oc100, H, Ho101⟩ := open_G H
         let J109 := fun (i102 : Int) (s103 : ByteArray) (i104 : Int) (u105 : Bool) (xs106 : List (List Int)) v107 I108 (E_ : Env) (W_ : World) => E_ = [(0, .pointer (some ⟨b0, 0, none⟩)), (3, .pointer (some ⟨b2, 0, none⟩)), (4, .pointer (some ⟨b4, 0, none⟩)), (5, .pointer (some ⟨b7, 0, none⟩)), (95, vi x1.f2), (96, vi i102)] ∧ St (fun _ => True) w0 W_ [rowM w0.heap.size 27 1 v107 xs106.length I108, rowM w0.heap.size 27 1 v91 xs90.length I92, rowM w0.heap.size 52 32 v53 xs52.length I54, rowM w0.heap.size 27 1 v37 xs36.length I38, rowM w0.heap.size 54 2 v21 xs20.length I22, boxM b7 #[vi x1.f0, vi x1.f1, vi x1.f2, v21, v37, v53, .slice A62 t59.1.length c63, vi t68.1.f0, .slice A71 t68.1.f1.length c72, .slice A75 t68.1.f2.length c76, vi t68.1.f3, vi t68.1.f4, v91, v107] 33, boxM b4 zz1 33, boxM b2 #[vi x1.f0, vi x1.f1, vi x1.f2, vi x1.f3, vi x1.f4, .slice A1_5 x1.f5.length c1_5, vi x1.f6] 61, boxM b0 #[.string s103, vi i104, .bool u105] 67, keepM w bs_] [(frameF w b0 bs_), (cF kI A1_5 x1.f5)] [(rF kS3 xs106 I108), (rF kS3 xs90 I92), (cF kS3 A71 t68.1.f1), (cF kS3 A75 t68.1.f2), (cF kI A62 t59.1), (rF k52 xs52 I54), (rF kS3 xs36 I38), (rF k54 xs20 I22)]
         have X110 : ∀ E_ W_, (∃ i102 s103 i104 u105 xs106 v107 I108, G98 (i102, s103, i104, u105, xs106) = some (r1, y_) ∧ J109 i102 s103 i104 u105 xs106 v107 I108 E_ W_) → ∀ a, Fits a 111 E_ → K96 a W_ := by
           rintro E_ w111 ⟨i102, s103, i104, u105, xs106, v107, I108, H, rfl, HS⟩
           rw [hG99] at H
           (try dsimp only at H)
           refine hK96 _ _ ?_
           clear hK96
           refine sr_ fun _ hK112 => ?_
           obtain ⟨A113, c114, rfl⟩ := row_slice (HS.mu 4 rfl)
           obtain ⟨A115, c116, rfl⟩ := row_slice (HS.mu 3 rfl)
           exact by (
           obtain ⟨A117, c118, rfl⟩ := row_slice (HS.mu 2 rfl)
           obtain ⟨A119, c120, rfl⟩ := row_slice (HS.mu 1 rfl)
           obtain ⟨A121, c122, rfl⟩ := row_slice (HS.mu 0 rfl)
           refine v_ (ls_ (HS.mu 5 rfl) underlying33 part_all) ?_
           refine WL.storeW HS 6 rfl rfl rfl rfl rfl rfl (oneL rfl) (by kernel_rfl) rfl (fun w123 HS => ?_)
           dsimp only [List.set] at HS
           refine dn_ hK112 (WC.ret ?_)
           clear hK112
           have le124 := row_le (HS.mu 4 rfl)
           replace HS := HS.freezeN 4 (p := (cF k54 A113 (xs20))) rfl (fun W_ hm_ h_ => row_C (by rfl) hm_ h_.2.2.2.2.2.2.2.1)
           dsimp only [List.eraseIdx] at HS
           have le125 := row_le (HS.mu 3 rfl)
           replace HS := HS.freezeN 3 (p := (cF kS3 A115 (xs36))) rfl (fun W_ hm_ h_ => row_C (by rfl) hm_ h_.2.2.2.2.2.2.2.1)
           dsimp only [List.eraseIdx] at HS
           have le126 := row_le (HS.mu 2 rfl)
           replace HS := HS.freezeN 2 (p := (cF k52 A117 (xs52))) rfl (fun W_ hm_ h_ => row_C (by rfl) hm_ h_.2.2.2.2.2.2.2.1)
           exact by (
           dsimp only [List.eraseIdx] at HS
           have le127 := row_le (HS.mu 1 rfl)
           replace HS := HS.freezeN 1 (p := (cF kS3 A119 (xs90))) rfl (fun W_ hm_ h_ => row_C (by rfl) hm_ h_.2.2.2.2.1)
           dsimp only [List.eraseIdx] at HS
           have le128 := row_le (HS.mu 0 rfl)
           replace HS := HS.freezeN 0 (p := (cF kS3 A121 (xs106))) rfl (fun W_ hm_ h_ => row_C (by rfl) hm_ h_.2.2.2.2.1)
           dsimp only [List.eraseIdx] at HS
           replace HS := HS.deriveN (p := (kF k33 (⟨x1.f0, x1.f1, x1.f2, xs20, xs36, xs52, t59.1, (⟨t68.1.f0, t68.1.f1, t68.1.f2, t68.1.f3, t68.1.f4⟩ : S29), (⟨xs90, xs106⟩ : S31)⟩ : S33) [vi x1.f0, vi x1.f1, vi x1.f2, .slice A113 xs20.length c114, .slice A115 xs36.length c116, .slice A117 xs52.length c118, .slice A62 t59.1.length c63, vi t68.1.f0, .slice A71 t68.1.f1.length c72, .slice A75 t68.1.f2.length c76, vi t68.1.f3, vi t68.1.f4, .slice A119 xs90.length c120, .slice A121 xs106.length c122])) (fun W_ hN_ => (k33_mk _ (⟨x1.f0, x1.f1, x1.f2, xs20, xs36, xs52, t59.1, (⟨t68.1.f0, t68.1.f1, t68.1.f2, t68.1.f3, t68.1.f4⟩ : S29), (⟨xs90, xs106⟩ : S31)⟩ : S33) (le124) hN_.2.2.2.2.1 (le125) hN_.2.2.2.1 (le126) hN_.2.2.1 (le64) hN_.2.2.2.2.2.2.2.2.2.1 (le73) hN_.2.2.2.2.2.2.2.1 (le77) hN_.2.2.2.2.2.2.2.2.1 (le127) hN_.2.1 (le128) hN_.1))
           obtain ⟨rfl, rfl⟩ := Prod.mk.inj (os H)
           have HSf := (St.forget (St.forget (St.forget HS 2 rfl) 1 rfl) 0 rfl)
           exact fin1 Try.f25 rfl ⟨_, rfl, resv_box (HS.mu 1 rfl) underlying33 rfl (by kernel_rfl)⟩ hR_ ⟨_, rfl, (foot_freshM (HSf.footN 0 rfl)), (HSf.mu 0 rfl), (rest_of (HSf.getO 0 rfl) (HSf.mu 1 rfl)), HSf.b⟩ ))
         clear hK96
         refine WC.loop (fun k_ E_ W_ => ∃ i102 s103 i104 u105 xs106 v107 I108, (∃ o_, imodel.l0 x1 k_ i102 s103 i104 u105 xs106 = some o_ ∧ G98 o_ = some (r1, y_)) ∧ J109 i102 s103 i104 u105 xs106 v107 I108 E_ W_) k ⟨0, s87, i88, u89, ([] : List (List Int)), (sn), ([]), ⟨_, H, Ho101⟩, rfl, HS⟩ (sb rfl) ?_
         rintro k_ E_ w130 ⟨i102, s103, i104, u105, xs106, v107, I108, ⟨oc100, H, Ho101⟩, rfl, HS⟩
         rcases k_ with _ | k131
         · exact no_ H
         exact by (
         replace H : imodel.b0 x1 (imodel.l0 x1 k131) k131 i102 s103 i104 u105 xs106 = some oc100 := H
         unfold imodel.b0 at H
         refine sr_ fun _ hK132 => ?_
         refine b_ bin_lss ?_
         refine dn_ hK132 (WC.seq fun _ hK133 => ?_)
         clear hK132
         rcases eti_ H with ⟨c134, H⟩ | ⟨c134, H⟩
         · refine wn_ (dF c134) (WC.exit ?_)
           obtain rfl := os H
           exact wv_ iq X110 ⟨i102, s103, i104, u105, xs106, v107, I108, Ho101, rfl, HS⟩
         refine wy_ (dT c134) (WC.skip (via_ hK133 (WC.seq fun _ hK135 => ?_)))
         clear hK133
         refine WC.block (WC.drawW HS [boxM b7 #[vi x1.f0, vi x1.f1, vi x1.f2, v21, v37, v53, .slice A62 t59.1.length c63, vi t68.1.f0, .slice A71 t68.1.f1.length c72, .slice A75 t68.1.f2.length c76, vi t68.1.f3, vi t68.1.f4, v91, v107] 33, boxM b4 zz1 33, boxM b2 #[vi x1.f0, vi x1.f1, vi x1.f2, vi x1.f3, vi x1.f4, .slice A1_5 x1.f5.length c1_5, vi x1.f6] 61] (fun _ HS => ⟨(HS.mu 5 rfl), (HS.mu 6 rfl), (HS.mu 7 rfl), trivial⟩) [11] rfl rfl (fun w136 HS => ?_))
         refine df_ 0 underlying33 ?_
         refine df_ 1 underlying31 ?_
         refine dm_ 3 ?_
         exact by (
         obtain ⟨A137, c138, rfl⟩ := row_slice (HS.mu 0 rfl)
         refine dt_ 2 ⟨HS.nowO, HS.nowN, ⟨(HS.mu 5 rfl), (HS.mu 6 rfl), (HS.mu 7 rfl), trivial⟩⟩ (fun w_ hw_ => Run.load rfl rfl underlying25 rfl (box_cell hw_.2.2.1 rfl)) ?_
         refine dt_ 4 ⟨HS.nowO, HS.nowN, ⟨(HS.mu 5 rfl), (HS.mu 6 rfl), (HS.mu 7 rfl), trivial⟩⟩ (fun w_ hw_ => Run.loadS (cs := [vi x1.f0, vi x1.f1, vi x1.f2, vi x1.f3, vi x1.f4, .slice A1_5 x1.f5.length c1_5, vi x1.f6]) rfl rfl underlying61 rfl (by kernel_rfl) (box_part hw_.2.2.2.2.1 part_all)) ?_
         obtain ⟨t139, ha140, H⟩ := bind_some H
         refine dc_ 5 (w_none rfl) func62 (ipairs.runs k131 (⟨x1.f0, x1.f1, x1.f2, x1.f3, x1.f4, x1.f5, x1.f6⟩ : S61) A1_5 c1_5 t139 _ (HS.getO 1 rfl) hc1_5 ha140) ?_
         clear ha140
         rintro _ w141 ⟨rfl, hb⟩
         replace HS := HS.below hb
         refine ⟨⟨HS.nowO, HS.nowN, ⟨(HS.mu 5 rfl), (HS.mu 6 rfl), (HS.mu 7 rfl), trivial⟩⟩, _, rfl, ?_⟩
         clear hb
         obtain ⟨t142, ha143, H⟩ := bind_some H
         refine dc_ 6 (w_none rfl) func64 (ilist.runs k131 b0 (⟨s103, i104, u105⟩ : S67) t139 2 128 _ t142.1 t142.2 _ _ HS.b (HS.nodupM 8 rfl) (HS.boundM 8 rfl) (HS.mu 8 rfl) ha143) ?_
         clear ha143
         rintro _ w144 ⟨A145, c146, rfl, le147, hf148, hbx_, hrest_, hB1_⟩
         replace HS := HS.newM 8 rfl hB1_ hrest_ hbx_ (foot_cons hf148 foot_nil)
         dsimp only [List.set] at HS
         exact by (
         clear hB1_ hrest_ hbx_
         refine ⟨⟨HS.nowO, HS.nowN.2, ⟨(HS.mu 5 rfl), (HS.mu 6 rfl), (HS.mu 7 rfl), trivial⟩⟩, _, rfl, ?_⟩
         have HS1 := HS.below (below_alloc (Below.refl _ _) (.cells #[.slice A145 t142.1.length c146] 27))
         refine dv_ 7 (w_none rfl) (Run.lit1 (z := (sn)) (vs := [.slice A145 t142.1.length c146]) rfl rfl rfl underlying25 (by kernel_rfl) (ble_ rfl) (ble_ rfl)) ⟨HS1.nowO, HS1.nowN.2, ⟨(HS1.mu 5 rfl), (HS1.mu 6 rfl), (HS1.mu 7 rfl), trivial⟩⟩ ?_
         obtain ⟨q149, H⟩ := if_some H
         refine WD.append 8 (w_none rfl) HS1 0 rfl rfl (sn) 24 underlying25 (by kernel_rfl) rfl (by decide) (by decide) rfl rfl [.slice A145 t142.1.length c146] rfl (lit_news _ _ _) (oneL rfl) (by omega) ((xs106 ++ [t142.1]).length) (by simp) (fun v150 w151 I152 hI153 HS => ?_)
         dsimp only [List.set] at HS
         replace HS := HS.deriveN (p := (rF kS3 (xs106 ++ [t142.1]) I152)) (fun W_ hN_ => reps_snoc hI153 hN_.2.1 (K_slice le147 hN_.1))
         clear HS1
         refine ⟨⟨HS.nowO, HS.nowN.2.2, ⟨(HS.mu 5 rfl), (HS.mu 6 rfl), (HS.mu 7 rfl), trivial⟩⟩, ?_⟩
         refine df_ 9 underlying33 ?_
         refine df_ 10 underlying31 ?_
         obtain ⟨A155, c156, rfl⟩ := row_slice (HS.mu 0 rfl)
         refine WD.storeL 11 HS 5 rfl rfl rfl rfl rfl (by kernel_rfl) (ble_ rfl) (cs' := #[vi x1.f0, vi x1.f1, vi x1.f2, v21, v37, v53, .slice A62 t59.1.length c63, vi t68.1.f0, .slice A71 t68.1.f1.length c72, .slice A75 t68.1.f2.length c76, vi t68.1.f3, vi t68.1.f4, v91, (.slice A155 ((xs106 ++ [t142.1]).length) c156)]) (by kernel_rfl) (fun w154 HS => ?_)
         dsimp only [List.set] at HS
         refine dd_ (via_ hK135 (rg_ (b_ bin_add64 ?_)))
         exact by (
         clear hK135
         refine mv_ ?_
         refine WL.done ?_
         exact wr_ k131 iq ⟨(wrap64 (i102 + 1)), t142.2.f0, t142.2.f1, t142.2.f2, (xs106 ++ [t142.1]), (.slice A155 ((xs106 ++ [t142.1]).length) c156), I152, ⟨_, H, Ho101⟩, rfl, (St.pk HS [0, 1] [0, 3, 4, 5, 6, 7, 8, 9] rfl rfl)⟩ )))))
       clear hK80
       refine WC.loop (fun k_ E_ W_ => ∃ i86 s87 i88 u89 xs90 v91 I92, (∃ o_, imodel.l1 x1 k_ i86 s87 i88 u89 xs90 = some o_ ∧ G82 o_ = some (r1, y_)) ∧ J93 i86 s87 i88 u89 xs90 v91 I92 E_ W_) k ⟨0, t68.2.f0, t68.2.f1, t68.2.f2, ([] : List (List Int)), (sn), ([]), ⟨_, H, Ho85⟩, rfl, HS⟩ (sb rfl) ?_
       rintro k_ E_ w158 ⟨i86, s87, i88, u89, xs90, v91, I92, ⟨oc84, H, Ho85⟩, rfl, HS⟩
       rcases k_ with _ | k159
       · exact no_ H
       replace H : imodel.b1 x1 (imodel.l1 x1 k159) k159 i86 s87 i88 u89 xs90 = some oc84 := H
       unfold imodel.b1 at H
       refine sr_ fun _ hK160 => ?_
       refine b_ bin_lss ?_
       refine dn_ hK160 (WC.seq fun _ hK161 => ?_)
       clear hK160
       rcases eti_ H with ⟨c162, H⟩ | ⟨c162, H⟩
       · refine wn_ (dF c162) (WC.exit ?_)
         obtain rfl := os H
         exact wv_ iq X94 ⟨i86, s87, i88, u89, xs90, v91, I92, Ho85, rfl, HS⟩
       exact by (
       refine wy_ (dT c162) (WC.skip (via_ hK161 (WC.seq fun _ hK163 => ?_)))
       clear hK161
       refine WC.block (WC.drawW HS [boxM b7 #[vi x1.f0, vi x1.f1, vi x1.f2, v21, v37, v53, .slice A62 t59.1.length c63, vi t68.1.f0, .slice A71 t68.1.f1.length c72, .slice A75 t68.1.f2.length c76, vi t68.1.f3, vi t68.1.f4, v91, sn] 33, boxM b4 zz1 33, boxM b2 #[vi x1.f0, vi x1.f1, vi x1.f2, vi x1.f3, vi x1.f4, .slice A1_5 x1.f5.length c1_5, vi x1.f6] 61] (fun _ HS => ⟨(HS.mu 4 rfl), (HS.mu 5 rfl), (HS.mu 6 rfl), trivial⟩) [11] rfl rfl (fun w164 HS => ?_))
       refine df_ 0 underlying33 ?_
       refine df_ 1 underlying31 ?_
       refine dm_ 3 ?_
       obtain ⟨A165, c166, rfl⟩ := row_slice (HS.mu 0 rfl)
       refine dt_ 2 ⟨HS.nowO, HS.nowN, ⟨(HS.mu 4 rfl), (HS.mu 5 rfl), (HS.mu 6 rfl), trivial⟩⟩ (fun w_ hw_ => Run.load rfl rfl underlying25 rfl (box_cell hw_.2.2.1 rfl)) ?_
       refine dt_ 4 ⟨HS.nowO, HS.nowN, ⟨(HS.mu 4 rfl), (HS.mu 5 rfl), (HS.mu 6 rfl), trivial⟩⟩ (fun w_ hw_ => Run.loadS (cs := [vi x1.f0, vi x1.f1, vi x1.f2, vi x1.f3, vi x1.f4, .slice A1_5 x1.f5.length c1_5, vi x1.f6]) rfl rfl underlying61 rfl (by kernel_rfl) (box_part hw_.2.2.2.2.1 part_all)) ?_
       obtain ⟨t167, ha168, H⟩ := bind_some H
       refine dc_ 5 (w_none rfl) func62 (ipairs.runs k159 (⟨x1.f0, x1.f1, x1.f2, x1.f3, x1.f4, x1.f5, x1.f6⟩ : S61) A1_5 c1_5 t167 _ (HS.getO 1 rfl) hc1_5 ha168) ?_
       clear ha168
       rintro _ w169 ⟨rfl, hb⟩
       replace HS := HS.below hb
       refine ⟨⟨HS.nowO, HS.nowN, ⟨(HS.mu 4 rfl), (HS.mu 5 rfl), (HS.mu 6 rfl), trivial⟩⟩, _, rfl, ?_⟩
       clear hb
       exact by (
       obtain ⟨t170, ha171, H⟩ := bind_some H
       refine dc_ 6 (w_none rfl) func64 (ilist.runs k159 b0 (⟨s87, i88, u89⟩ : S67) t167 2 128 _ t170.1 t170.2 _ _ HS.b (HS.nodupM 7 rfl) (HS.boundM 7 rfl) (HS.mu 7 rfl) ha171) ?_
       clear ha171
       rintro _ w172 ⟨A173, c174, rfl, le175, hf176, hbx_, hrest_, hB1_⟩
       replace HS := HS.newM 7 rfl hB1_ hrest_ hbx_ (foot_cons hf176 foot_nil)
       dsimp only [List.set] at HS
       clear hB1_ hrest_ hbx_
       refine ⟨⟨HS.nowO, HS.nowN.2, ⟨(HS.mu 4 rfl), (HS.mu 5 rfl), (HS.mu 6 rfl), trivial⟩⟩, _, rfl, ?_⟩
       have HS1 := HS.below (below_alloc (Below.refl _ _) (.cells #[.slice A173 t170.1.length c174] 27))
       refine dv_ 7 (w_none rfl) (Run.lit1 (z := (sn)) (vs := [.slice A173 t170.1.length c174]) rfl rfl rfl underlying25 (by kernel_rfl) (ble_ rfl) (ble_ rfl)) ⟨HS1.nowO, HS1.nowN.2, ⟨(HS1.mu 4 rfl), (HS1.mu 5 rfl), (HS1.mu 6 rfl), trivial⟩⟩ ?_
       obtain ⟨q177, H⟩ := if_some H
       refine WD.append 8 (w_none rfl) HS1 0 rfl rfl (sn) 24 underlying25 (by kernel_rfl) rfl (by decide) (by decide) rfl rfl [.slice A173 t170.1.length c174] rfl (lit_news _ _ _) (oneL rfl) (by omega) ((xs90 ++ [t170.1]).length) (by simp) (fun v178 w179 I180 hI181 HS => ?_)
       dsimp only [List.set] at HS
       replace HS := HS.deriveN (p := (rF kS3 (xs90 ++ [t170.1]) I180)) (fun W_ hN_ => reps_snoc hI181 hN_.2.1 (K_slice le175 hN_.1))
       clear HS1
       refine ⟨⟨HS.nowO, HS.nowN.2.2, ⟨(HS.mu 4 rfl), (HS.mu 5 rfl), (HS.mu 6 rfl), trivial⟩⟩, ?_⟩
       exact by (
       refine df_ 9 underlying33 ?_
       refine df_ 10 underlying31 ?_
       obtain ⟨A183, c184, rfl⟩ := row_slice (HS.mu 0 rfl)
       refine WD.storeL 11 HS 4 rfl rfl rfl rfl rfl (by kernel_rfl) (ble_ rfl) (cs' := #[vi x1.f0, vi x1.f1, vi x1.f2, v21, v37, v53, .slice A62 t59.1.length c63, vi t68.1.f0, .slice A71 t68.1.f1.length c72, .slice A75 t68.1.f2.length c76, vi t68.1.f3, vi t68.1.f4, (.slice A183 ((xs90 ++ [t170.1]).length) c184), sn]) (by kernel_rfl) (fun w182 HS => ?_)
       dsimp only [List.set] at HS
       refine dd_ (via_ hK163 (rg_ (b_ bin_add64 ?_)))
       clear hK163
       refine mv_ ?_
       refine WL.done ?_
       exact wr_ k159 iq ⟨(wrap64 (i86 + 1)), t170.2.f0, t170.2.f1, t170.2.f2, (xs90 ++ [t170.1]), (.slice A183 ((xs90 ++ [t170.1]).length) c184), I180, ⟨_, H, Ho85⟩, rfl, (St.pk HS [0, 1] [0, 3, 4, 5, 6, 7, 8] rfl rfl)⟩ ))))))
     clear hK42
     refine WC.loop (fun k_ E_ W_ => ∃ i48 s49 i50 u51 xs52 v53 I54, (∃ o_, imodel.l2 x1 k_ i48 s49 i50 u51 xs52 = some o_ ∧ G44 o_ = some (r1, y_)) ∧ J55 i48 s49 i50 u51 xs52 v53 I54 E_ W_) k ⟨0, s33, i34, u35, ([] : List S52), (sn), ([]), ⟨_, H, Ho47⟩, rfl, HS⟩ (sb rfl) ?_
     rintro k_ E_ w186 ⟨i48, s49, i50, u51, xs52, v53, I54, ⟨oc46, H, Ho47⟩, rfl, HS⟩
     rcases k_ with _ | k187
     · exact no_ H
     replace H : imodel.b2 x1 (imodel.l2 x1 k187) k187 i48 s49 i50 u51 xs52 = some oc46 := H
     exact by (
     unfold imodel.b2 at H
     refine sr_ fun _ hK188 => ?_
     refine b_ bin_lss ?_
     refine dn_ hK188 (WC.seq fun _ hK189 => ?_)
     clear hK188
     rcases eti_ H with ⟨c190, H⟩ | ⟨c190, H⟩
     · refine wn_ (dF c190) (WC.exit ?_)
       obtain rfl := os H
       exact wv_ iq X56 ⟨i48, s49, i50, u51, xs52, v53, I54, Ho47, rfl, HS⟩
     refine wy_ (dT c190) (WC.skip (via_ hK189 (WC.seq fun _ hK191 => ?_)))
     clear hK189
     refine WC.block (sr_ fun _ hK192 => ?_)
     obtain ⟨⟨q193, q194⟩, H⟩ := if_some H
     obtain ⟨ad195, rfl⟩ := C_open (HS.getO 1 rfl) (by omega)
     refine v_ (ia_ underlying27 1 q193 q194) ?_
     refine v_ (Run.load rfl rfl underlying3 rfl (int_cell (HS.getO 1 rfl) i48 q193 q194)) ?_
     exact by (
     refine ad_ hK192 ?_
     clear hK192
     refine WC.drawW HS [boxM b7 #[vi x1.f0, vi x1.f1, vi x1.f2, v21, v37, v53, sn, vi 0, sn, sn, vi 0, vi 0, sn, sn] 33, boxM b4 zz1 33, boxM b2 #[vi x1.f0, vi x1.f1, vi x1.f2, vi x1.f3, vi x1.f4, .slice (some ad195) x1.f5.length c1_5, vi x1.f6] 61] (fun _ HS => ⟨(HS.mu 3 rfl), (HS.mu 4 rfl), (HS.mu 5 rfl), trivial⟩) [10] rfl rfl (fun w196 HS => ?_)
     refine df_ 0 underlying33 ?_
     refine dm_ 2 ?_
     refine df_ 3 underlying61 ?_
     refine dm_ 5 ?_
     obtain ⟨A197, c198, rfl⟩ := row_slice (HS.mu 0 rfl)
     refine dt_ 1 ⟨HS.nowO, HS.nowN, ⟨(HS.mu 3 rfl), (HS.mu 4 rfl), (HS.mu 5 rfl), trivial⟩⟩ (fun w_ hw_ => Run.load rfl rfl underlying26 rfl (box_cell hw_.2.2.1 rfl)) ?_
     refine dt_ 4 ⟨HS.nowO, HS.nowN, ⟨(HS.mu 3 rfl), (HS.mu 4 rfl), (HS.mu 5 rfl), trivial⟩⟩ (fun w_ hw_ => Run.load rfl rfl underlying3 rfl (box_cell hw_.2.2.2.2.1 rfl)) ?_
     obtain ⟨t199, ha200, H⟩ := bind_some H
     refine dc_ 6 (w_none rfl) func65 (impl_fileReader_layer.runs k187 b0 (⟨s49, i50, u51⟩ : S67) x1.f0 (x1.f5.getD i48.toNat 0) _ t199.1 t199.2 _ _ HS.b (HS.nodupM 6 rfl) (HS.boundM 6 rfl) (HS.mu 6 rfl) ha200) ?_
     clear ha200
     rintro _ w201 ⟨cs202, rfl, hf203, hbx_, hrest_, hB1_⟩
     replace HS := HS.newM 6 rfl hB1_ hrest_ hbx_ (foot_cons hf203 foot_nil)
     dsimp only [List.set] at HS
     exact by (
     have el204 : cs202.length = 32 := k52.K_len (Foot.now hf203)
     clear hB1_ hrest_ hbx_
     refine ⟨⟨HS.nowO, HS.nowN.2, ⟨(HS.mu 3 rfl), (HS.mu 4 rfl), (HS.mu 5 rfl), trivial⟩⟩, _, rfl, ?_⟩
     have HS1 := HS.below (below_alloc (Below.refl _ _) (.cells cs202.toArray 52))
     refine dv_ 7 (w_none rfl) (Run.lit1 (z := (.agg zz2)) (vs := cs202) rfl rfl rfl underlying26 (by rw [el204]; kernel_rfl) (by rw [el204]; decide) (by rw [el204]; decide)) ⟨HS1.nowO, HS1.nowN.2, ⟨(HS1.mu 3 rfl), (HS1.mu 4 rfl), (HS1.mu 5 rfl), trivial⟩⟩ ?_
     obtain ⟨q205, H⟩ := if_some H
     refine WD.append 8 (w_none rfl) HS1 0 rfl rfl (.agg zz2) 480 underlying26 (by kernel_rfl) rfl (by decide) (by decide) rfl rfl cs202 (el204.trans (Nat.one_mul _).symm) (lit_news _ _ _) (Kd.K_one _ (HS.getN 0 rfl)) (by omega) ((xs52 ++ [t199.1]).length) (by simp) (fun v206 w207 I208 hI209 HS => ?_)
     dsimp only [List.set] at HS
     replace HS := HS.deriveN (p := (rF k52 (xs52 ++ [t199.1]) I208)) (fun W_ hN_ => reps_snoc hI209 hN_.2.1 hN_.1)
     clear HS1
     refine ⟨⟨HS.nowO, HS.nowN.2.2, ⟨(HS.mu 3 rfl), (HS.mu 4 rfl), (HS.mu 5 rfl), trivial⟩⟩, ?_⟩
     refine df_ 9 underlying33 ?_
     obtain ⟨A211, c212, rfl⟩ := row_slice (HS.mu 0 rfl)
     refine WD.storeL 10 HS 3 rfl rfl rfl rfl rfl (by kernel_rfl) (ble_ rfl) (cs' := #[vi x1.f0, vi x1.f1, vi x1.f2, v21, v37, (.slice A211 ((xs52 ++ [t199.1]).length) c212), sn, vi 0, sn, sn, vi 0, vi 0, sn, sn]) (by kernel_rfl) (fun w210 HS => ?_)
     dsimp only [List.set] at HS
     refine dd_ (via_ hK191 (rg_ (b_ bin_add64 ?_)))
     exact by (
     clear hK191
     refine mv_ ?_
     refine WL.done ?_
     exact wr_ k187 iq ⟨(wrap64 (i48 + 1)), t199.2.f0, t199.2.f1, t199.2.f2, (xs52 ++ [t199.1]), (.slice A211 ((xs52 ++ [t199.1]).length) c212), I208, ⟨_, H, Ho47⟩, rfl, (St.pk HS [0, 1] [0, 3, 4] rfl rfl)⟩ )))))
   clear hK26
   refine WC.loop (fun k_ E_ W_ => ∃ i32 s33 i34 u35 xs36 v37 I38, (∃ o_, imodel.l3 x1 k_ i32 s33 i34 u35 xs36 = some o_ ∧ G28 o_ = some (r1, y_)) ∧ J39 i32 s33 i34 u35 xs36 v37 I38 E_ W_) k ⟨0, s17, i18, u19, ([] : List (List Int)), (sn), ([]), ⟨_, H, Ho31⟩, rfl, HS⟩ (sb rfl) ?_
   rintro k_ E_ w214 ⟨i32, s33, i34, u35, xs36, v37, I38, ⟨oc30, H, Ho31⟩, rfl, HS⟩
   rcases k_ with _ | k215
   · exact no_ H
   replace H : imodel.b3 x1 (imodel.l3 x1 k215) k215 i32 s33 i34 u35 xs36 = some oc30 := H
   unfold imodel.b3 at H
   refine sr_ fun _ hK216 => ?_
   refine b_ bin_lss ?_
   refine dn_ hK216 (WC.seq fun _ hK217 => ?_)
   clear hK216
   rcases eti_ H with ⟨c218, H⟩ | ⟨c218, H⟩
   · refine wn_ (dF c218) (WC.exit ?_)
     obtain rfl := os H
     exact wv_ iq X40 ⟨i32, s33, i34, u35, xs36, v37, I38, Ho31, rfl, HS⟩
   exact by (
   refine wy_ (dT c218) (WC.skip (via_ hK217 (WC.seq fun _ hK219 => ?_)))
   clear hK217
   refine WC.block (WC.drawW HS [boxM b7 #[vi x1.f0, vi x1.f1, vi x1.f2, v21, v37, sn, sn, vi 0, sn, sn, vi 0, vi 0, sn, sn] 33, boxM b4 zz1 33, boxM b2 #[vi x1.f0, vi x1.f1, vi x1.f2, vi x1.f3, vi x1.f4, .slice A1_5 x1.f5.length c1_5, vi x1.f6] 61] (fun _ HS => ⟨(HS.mu 2 rfl), (HS.mu 3 rfl), (HS.mu 4 rfl), trivial⟩) [9] rfl rfl (fun w220 HS => ?_))
   refine df_ 0 underlying33 ?_
   refine dm_ 2 ?_
   refine df_ 3 underlying61 ?_
   obtain ⟨A221, c222, rfl⟩ := row_slice (HS.mu 0 rfl)
   refine dt_ 1 ⟨HS.nowO, HS.nowN, ⟨(HS.mu 2 rfl), (HS.mu 3 rfl), (HS.mu 4 rfl), trivial⟩⟩ (fun w_ hw_ => Run.load rfl rfl underlying25 rfl (box_cell hw_.2.2.1 rfl)) ?_
   refine dt_ 4 ⟨HS.nowO, HS.nowN, ⟨(HS.mu 2 rfl), (HS.mu 3 rfl), (HS.mu 4 rfl), trivial⟩⟩ (fun w_ hw_ => Run.load rfl rfl underlying3 rfl (box_cell hw_.2.2.2.2.1 rfl)) ?_
   obtain ⟨t223, ha224, H⟩ := bind_some H
   refine dc_ 5 (w_none rfl) func64 (ilist.runs k215 b0 (⟨s33, i34, u35⟩ : S67) x1.f0 1 128 _ t223.1 t223.2 _ _ HS.b (HS.nodupM 5 rfl) (HS.boundM 5 rfl) (HS.mu 5 rfl) ha224) ?_
   clear ha224
   rintro _ w225 ⟨A226, c227, rfl, le228, hf229, hbx_, hrest_, hB1_⟩
   replace HS := HS.newM 5 rfl hB1_ hrest_ hbx_ (foot_cons hf229 foot_nil)
   dsimp only [List.set] at HS
   clear hB1_ hrest_ hbx_
   exact by (
   refine ⟨⟨HS.nowO, HS.nowN.2, ⟨(HS.mu 2 rfl), (HS.mu 3 rfl), (HS.mu 4 rfl), trivial⟩⟩, _, rfl, ?_⟩
   have HS1 := HS.below (below_alloc (Below.refl _ _) (.cells #[.slice A226 t223.1.length c227] 27))
   refine dv_ 6 (w_none rfl) (Run.lit1 (z := (sn)) (vs := [.slice A226 t223.1.length c227]) rfl rfl rfl underlying25 (by kernel_rfl) (ble_ rfl) (ble_ rfl)) ⟨HS1.nowO, HS1.nowN.2, ⟨(HS1.mu 2 rfl), (HS1.mu 3 rfl), (HS1.mu 4 rfl), trivial⟩⟩ ?_
   obtain ⟨q230, H⟩ := if_some H
   refine WD.append 7 (w_none rfl) HS1 0 rfl rfl (sn) 24 underlying25 (by kernel_rfl) rfl (by decide) (by decide) rfl rfl [.slice A226 t223.1.length c227] rfl (lit_news _ _ _) (oneL rfl) (by omega) ((xs36 ++ [t223.1]).length) (by simp) (fun v231 w232 I233 hI234 HS => ?_)
   dsimp only [List.set] at HS
   replace HS := HS.deriveN (p := (rF kS3 (xs36 ++ [t223.1]) I233)) (fun W_ hN_ => reps_snoc hI234 hN_.2.1 (K_slice le228 hN_.1))
   clear HS1
   refine ⟨⟨HS.nowO, HS.nowN.2.2, ⟨(HS.mu 2 rfl), (HS.mu 3 rfl), (HS.mu 4 rfl), trivial⟩⟩, ?_⟩
   refine df_ 8 underlying33 ?_
   obtain ⟨A236, c237, rfl⟩ := row_slice (HS.mu 0 rfl)
   refine WD.storeL 9 HS 2 rfl rfl rfl rfl rfl (by kernel_rfl) (ble_ rfl) (cs' := #[vi x1.f0, vi x1.f1, vi x1.f2, v21, (.slice A236 ((xs36 ++ [t223.1]).length) c237), sn, sn, vi 0, sn, sn, vi 0, vi 0, sn, sn]) (by kernel_rfl) (fun w235 HS => ?_)
   dsimp only [List.set] at HS
   refine dd_ (via_ hK219 (rg_ (b_ bin_add64 ?_)))
   clear hK219
   refine mv_ ?_
   exact by (
   refine WL.done ?_
   exact wr_ k215 iq ⟨(wrap64 (i32 + 1)), t223.2.f0, t223.2.f1, t223.2.f2, (xs36 ++ [t223.1]), (.slice A236 ((xs36 ++ [t223.1]).length) c237), I233, ⟨_, H, Ho31⟩, rfl, (St.pk HS [0, 1] [0, 3] rfl rfl)⟩ )))))
 clear hK10
 refine WC.loop (fun k_ E_ W_ => ∃ i16 s17 i18 u19 xs20 v21 I22, (∃ o_, imodel.l4 x1 k_ i16 s17 i18 u19 xs20 = some o_ ∧ G12 o_ = some (r1, y_)) ∧ J23 i16 s17 i18 u19 xs20 v21 I22 E_ W_) k ⟨0, x0.f0, x0.f1, x0.f2, ([] : List S54), (sn), ([]), ⟨_, H, Ho15⟩, rfl, HS⟩ (sb rfl) ?_
 rintro k_ E_ w239 ⟨i16, s17, i18, u19, xs20, v21, I22, ⟨oc14, H, Ho15⟩, rfl, HS⟩
 rcases k_ with _ | k240
 · exact no_ H
 replace H : imodel.b4 x1 (imodel.l4 x1 k240) k240 i16 s17 i18 u19 xs20 = some oc14 := H
 unfold imodel.b4 at H
 refine sr_ fun _ hK241 => ?_
 refine b_ bin_lss ?_
 refine dn_ hK241 (WC.seq fun _ hK242 => ?_)
 clear hK241
 rcases eti_ H with ⟨c243, H⟩ | ⟨c243, H⟩
 · refine wn_ (dF c243) (WC.exit ?_)
   obtain rfl := os H
   exact wv_ iq X24 ⟨i16, s17, i18, u19, xs20, v21, I22, Ho15, rfl, HS⟩
 exact by (
 refine wy_ (dT c243) (WC.skip (via_ hK242 (WC.seq fun _ hK244 => ?_)))
 clear hK242
 refine WC.block (sr_ fun _ hK245 => ?_)
 refine mv_ ?_
 obtain ⟨t246, ha247, H⟩ := bind_some H
 refine c_ func63 (iwide1.runs k240 b0 (⟨s17, i18, u19⟩ : S67) 2 _ t246.1 t246.2 _ _ HS.b (HS.nodupM 4 rfl) (HS.boundM 4 rfl) (HS.mu 4 rfl) ha247) ?_
 clear ha247
 rintro _ w248 ⟨rfl, hbx_, hrest_, hB1_⟩
 replace HS := HS.calledM 4 rfl hB1_ hrest_ hbx_
 dsimp only [List.set] at HS
 clear hB1_ hrest_ hbx_
 refine ⟨_, rfl, ?_⟩
 refine ad_ hK245 ?_
 clear hK245
 refine WC.drawW HS [boxM b7 #[vi x1.f0, vi x1.f1, vi x1.f2, v21, sn, sn, sn, vi 0, sn, sn, vi 0, vi 0, sn, sn] 33, boxM b4 zz1 33, boxM b2 #[vi x1.f0, vi x1.f1, vi x1.f2, vi x1.f3, vi x1.f4, .slice A1_5 x1.f5.length c1_5, vi x1.f6] 61] (fun _ HS => ⟨(HS.mu 1 rfl), (HS.mu 2 rfl), (HS.mu 3 rfl), trivial⟩) [9] rfl rfl (fun w249 HS => ?_)
 refine df_ 0 underlying33 ?_
 exact by (
 refine dm_ 2 ?_
 refine dm_ 3 ?_
 obtain ⟨A250, c251, rfl⟩ := row_slice (HS.mu 0 rfl)
 refine dt_ 1 ⟨HS.nowO, HS.nowN, ⟨(HS.mu 1 rfl), (HS.mu 2 rfl), (HS.mu 3 rfl), trivial⟩⟩ (fun w_ hw_ => Run.load rfl rfl underlying24 rfl (box_cell hw_.2.2.1 rfl)) ?_
 obtain ⟨t252, ha253, H⟩ := bind_some H
 refine dc_ 4 (w_none rfl) func63 (iwide1.runs k240 b0 (⟨t246.2.f0, t246.2.f1, t246.2.f2⟩ : S67) 2 _ t252.1 t252.2 _ _ HS.b (HS.nodupM 4 rfl) (HS.boundM 4 rfl) (HS.mu 4 rfl) ha253) ?_
 clear ha253
 rintro _ w254 ⟨rfl, hbx_, hrest_, hB1_⟩
 replace HS := HS.calledM 4 rfl hB1_ hrest_ hbx_
 dsimp only [List.set] at HS
 clear hB1_ hrest_ hbx_
 refine ⟨⟨HS.nowO, HS.nowN, ⟨(HS.mu 1 rfl), (HS.mu 2 rfl), (HS.mu 3 rfl), trivial⟩⟩, _, rfl, ?_⟩
 refine db_ 5 [(0, vi t246.1), (1, vi t252.1)] (cells := #[vi t246.1, vi t252.1]) rfl rfl ⟨⟨rfl, rfl⟩, ⟨⟨rfl, rfl⟩, trivial⟩⟩ (by kernel_rfl) ?_
 have HS1 := HS.below (below_alloc (Below.refl _ _) (.cells #[vi t246.1, vi t252.1] 54))
 refine dv_ 6 (w_none rfl) (Run.lit1 (z := (.agg #[vi 0, vi 0])) (vs := [vi t246.1, vi t252.1]) rfl rfl rfl underlying24 (by kernel_rfl) (ble_ rfl) (ble_ rfl)) ⟨HS1.nowO, HS1.nowN, ⟨(HS1.mu 1 rfl), (HS1.mu 2 rfl), (HS1.mu 3 rfl), trivial⟩⟩ ?_
 obtain ⟨q255, H⟩ := if_some H
 exact by (
 refine WD.append 7 (w_none rfl) HS1 0 rfl rfl (.agg #[vi 0, vi 0]) 16 underlying24 (by kernel_rfl) rfl (by decide) (by decide) rfl rfl [vi t246.1, vi t252.1] rfl (lit_news _ _ _) (oneL rfl) (by omega) ((xs20 ++ [(⟨t246.1, t252.1⟩ : S54)]).length) (by simp) (fun v256 w257 I258 hI259 HS => ?_)
 dsimp only [List.set] at HS
 replace HS := HS.deriveN (p := (rF k54 (xs20 ++ [(⟨t246.1, t252.1⟩ : S54)]) I258)) (fun W_ hN_ => reps_snoc hI259 hN_.1 (k54_mk _ (⟨t246.1, t252.1⟩ : S54)))
 clear HS1
 refine ⟨⟨HS.nowO, HS.nowN.2, ⟨(HS.mu 1 rfl), (HS.mu 2 rfl), (HS.mu 3 rfl), trivial⟩⟩, ?_⟩
 refine df_ 8 underlying33 ?_
 obtain ⟨A261, c262, rfl⟩ := row_slice (HS.mu 0 rfl)
 refine WD.storeL 9 HS 1 rfl rfl rfl rfl rfl (by kernel_rfl) (ble_ rfl) (cs' := #[vi x1.f0, vi x1.f1, vi x1.f2, (.slice A261 ((xs20 ++ [(⟨t246.1, t252.1⟩ : S54)]).length) c262), sn, sn, sn, vi 0, sn, sn, vi 0, vi 0, sn, sn]) (by kernel_rfl) (fun w260 HS => ?_)
 dsimp only [List.set] at HS
 refine dd_ (via_ hK244 (rg_ (b_ bin_add64 ?_)))
 clear hK244
 refine mv_ ?_
 refine WL.done ?_
 exact wr_ k240 iq ⟨(wrap64 (i16 + 1)), t252.2.f0, t252.2.f1, t252.2.f2, (xs20 ++ [(⟨t246.1, t252.1⟩ : S54)]), (.slice A261 ((xs20 ++ [(⟨t246.1, t252.1⟩ : S54)]).length) c262), I258, ⟨_, H, Ho15⟩, rfl, (St.pk HS [0, 1] [0] rfl rfl)⟩ ))))
def iRM.g (k : Nat) (a0 : ByteArray) : Option (S33 × Int) := (if (a0.size : Int) < 20 then (some ((⟨0, 0, 0, [], [], [], [], (⟨0, [], [], 0, 0⟩ : S29), (⟨[], []⟩ : S31)⟩ : S33), 1)) else ((impl_Unsealed.g k a0).bind fun t10 => (if t10.2 = true then ((impl_readHead.g k t10.1).bind fun t17 => (if t17.2 = true then ((ibytes.g k (⟨t17.1.f0, t17.1.f1, t17.1.f2, t17.1.f3, t17.1.f4, t17.1.f5, t17.1.f6⟩ : S61)).bind fun t32 => (if (t10.1.size : Int) = t32 then ((imodel.g k (⟨t10.1, t17.1.f6, false⟩ : S67) (⟨t17.1.f0, t17.1.f1, t17.1.f2, t17.1.f3, t17.1.f4, t17.1.f5, t17.1.f6⟩ : S61)).bind fun t40 => ((iMT.g k t40.1).bind fun t50 => (if t40.2.f2 = true then (some ((⟨0, 0, 0, [], [], [], [], (⟨0, [], [], 0, 0⟩ : S29), (⟨[], []⟩ : S31)⟩ : S33), 5)) else (if t50.2 = true then (if t50.1.toList = a0.toList then (some (t40.1, 0)) else (some ((⟨0, 0, 0, [], [], [], [], (⟨0, [], [], 0, 0⟩ : S29), (⟨[], []⟩ : S31)⟩ : S33), 5))) else (some ((⟨0, 0, 0, [], [], [], [], (⟨0, [], [], 0, 0⟩ : S29), (⟨[], []⟩ : S31)⟩ : S33), 5)))))) else (some ((⟨0, 0, 0, [], [], [], [], (⟨0, [], [], 0, 0⟩ : S29), (⟨[], []⟩ : S31)⟩ : S33), 4)))) else (some ((⟨0, 0, 0, [], [], [], [], (⟨0, [], [], 0, 0⟩ : S29), (⟨[], []⟩ : S31)⟩ : S33), 3)))) else (some ((⟨0, 0, 0, [], [], [], [], (⟨0, [], [], 0, 0⟩ : S29), (⟨[], []⟩ : S31)⟩ : S33), 2)))))
theorem iRM.runs (k : Nat) (a0 : ByteArray) (r1 : S33) (r2 : Int) (w : World) (H : iRM.g k a0 = some (r1, r2)) :
   Calls prog 7 #[.string a0] w fun e w' => ∃ (cs0_ : List Value), e = .returned (.tuple #[.agg cs0_.toArray, vi r2]) ∧ Foot (kF k33 r1 cs0_) w' (fun k_ => w.heap.size ≤ k_) ∧ Below w.heap.size w w' := by
 unfold iRM.g at H
 have HS : St (fun _ => True) w w [] [] [] := St.start foot_nil
 refine cw_ (n := 64) func7 fun R_ hR_ => ?_
 refine sr_ fun _ hK1 => ?_
 refine WL.alloc HS (v := .agg zz1) (cs := zz1) rfl rfl (by decide) rfl (by kernel_rfl) rfl (fun b2 w3 hb2 HS => ?_)
 refine ad_ hK1 ?_
 clear hK1
 refine WC.seq fun _ hK4 => ?_
 refine sr_ fun _ hK5 => ?_
 refine mv_ ?_
 refine v_ (Run.lenStr rfl underlying9 rfl) ?_
 refine b_ bin_lss ?_
 refine dn_ hK5 ?_
 clear hK5
 rcases ite_ H with ⟨c6, H⟩ | ⟨c6, H⟩
 · refine wy_ (dT c6) (sr_ fun _ hK7 => ?_)
   exact by (
   refine v_ (Run.build (cells := zz1) rfl [] trivial (by kernel_rfl)) ?_
   refine WL.storeW HS 0 rfl rfl rfl rfl rfl rfl (oneL rfl) (by kernel_rfl) rfl (fun w8 HS => ?_)
   dsimp only [List.set] at HS
   refine ad_ hK7 ?_
   clear hK7
   refine WC.ret ?_
   replace HS := HS.deriveN (p := (kF k33 (⟨0, 0, 0, [], [], [], [], (⟨0, [], [], 0, 0⟩ : S29), (⟨[], []⟩ : S31)⟩ : S33) zl3)) (fun W_ hN_ => (k33_mk _ (⟨0, 0, 0, [], [], [], [], (⟨0, [], [], 0, 0⟩ : S29), (⟨[], []⟩ : S31)⟩ : S33) ((Nat.le_refl _)) (Kd.C_nil _ _) ((Nat.le_refl _)) (Kd.C_nil _ _) ((Nat.le_refl _)) (Kd.C_nil _ _) ((Nat.le_refl _)) (Kd.C_nil _ _) ((Nat.le_refl _)) (Kd.C_nil _ _) ((Nat.le_refl _)) (Kd.C_nil _ _) ((Nat.le_refl _)) (Kd.C_nil _ _) ((Nat.le_refl _)) (Kd.C_nil _ _)))
   obtain ⟨rfl, rfl⟩ := Prod.mk.inj (os H)
   exact fin2 Try.f7 rfl ⟨_, rfl, resv_box (HS.mu 0 rfl) underlying33 rfl (by kernel_rfl)⟩ rfl hR_ ⟨_, rfl, (foot_fresh (HS.footN 0 rfl)), HS.b⟩ )
 refine wn_ (dF c6) (WC.skip (via_ hK4 (sr_ fun _ hK9 => ?_)))
 clear hK4
 refine mv_ ?_
 obtain ⟨t10, ha11, H⟩ := bind_some H
 refine cs_ HS func22 (impl_Unsealed.runs k a0 t10.1 t10.2 _  ha11) (fun w12 HS => ?_)
 clear ha11
 refine mv_ ?_
 exact by (
 refine v_ (Run.extract rfl rfl rfl) ?_
 refine v_ (Run.extract rfl rfl rfl) ?_
 refine as_ ?_
 refine ad_ hK9 ?_
 clear hK9
 refine WC.seq fun _ hK13 => ?_
 refine sr_ fun _ hK14 => ?_
 refine mv_ ?_
 refine nt_ ?_
 refine dn_ hK14 ?_
 clear hK14
 rcases eti_ H with ⟨c15, H⟩ | ⟨c15, H⟩
 · refine wy_ (nB (bF c15)) (sr_ fun _ hK70 => ?_)
   refine v_ (Run.build (cells := zz1) rfl [] trivial (by kernel_rfl)) ?_
   refine WL.storeW HS 0 rfl rfl rfl rfl rfl rfl (oneL rfl) (by kernel_rfl) rfl (fun w71 HS => ?_)
   dsimp only [List.set] at HS
   exact by (
   refine ad_ hK70 ?_
   clear hK70
   refine WC.ret ?_
   replace HS := HS.deriveN (p := (kF k33 (⟨0, 0, 0, [], [], [], [], (⟨0, [], [], 0, 0⟩ : S29), (⟨[], []⟩ : S31)⟩ : S33) zl3)) (fun W_ hN_ => (k33_mk _ (⟨0, 0, 0, [], [], [], [], (⟨0, [], [], 0, 0⟩ : S29), (⟨[], []⟩ : S31)⟩ : S33) ((Nat.le_refl _)) (Kd.C_nil _ _) ((Nat.le_refl _)) (Kd.C_nil _ _) ((Nat.le_refl _)) (Kd.C_nil _ _) ((Nat.le_refl _)) (Kd.C_nil _ _) ((Nat.le_refl _)) (Kd.C_nil _ _) ((Nat.le_refl _)) (Kd.C_nil _ _) ((Nat.le_refl _)) (Kd.C_nil _ _) ((Nat.le_refl _)) (Kd.C_nil _ _)))
   obtain ⟨rfl, rfl⟩ := Prod.mk.inj (os H)
   exact fin2 Try.f7 rfl ⟨_, rfl, resv_box (HS.mu 0 rfl) underlying33 rfl (by kernel_rfl)⟩ rfl hR_ ⟨_, rfl, (foot_fresh (HS.footN 0 rfl)), HS.b⟩ )
 refine wn_ (nB c15) (WC.skip (via_ hK13 (sr_ fun _ hK16 => ?_)))
 clear hK13
 refine mv_ ?_
 obtain ⟨t17, ha18, H⟩ := bind_some H
 refine c_ func23 (impl_readHead.runs k t10.1 t17.1 t17.2 _  ha18) ?_
 clear ha18
 rintro _ w19 ⟨A20, c21, rfl, le22, hf23, hb⟩
 replace HS := HS.newNs hb (foot_cons hf23 foot_nil)
 refine ⟨_, rfl, ?_⟩
 clear hb
 exact by (
 refine mv_ ?_
 refine v_ (Run.extract rfl rfl rfl) ?_
 refine v_ (Run.extract rfl rfl rfl) ?_
 refine WL.alloc HS (v := .agg #[vi 0, vi 0, vi 0, vi 0, vi 0, sn, vi 0]) (cs := #[vi 0, vi 0, vi 0, vi 0, vi 0, sn, vi 0]) rfl rfl (by decide) rfl (by kernel_rfl) rfl (fun b24 w25 hb24 HS => ?_)
 refine WL.storeW HS 0 rfl rfl rfl rfl rfl rfl (oneL rfl) (by kernel_rfl) rfl (fun w26 HS => ?_)
 dsimp only [List.set] at HS
 refine ad_ hK16 ?_
 clear hK16
 refine WC.seq fun _ hK27 => ?_
 refine sr_ fun _ hK28 => ?_
 refine mv_ ?_
 refine nt_ ?_
 refine dn_ hK28 ?_
 clear hK28
 rcases eti_ H with ⟨c29, H⟩ | ⟨c29, H⟩
 · refine wy_ (nB (bF c29)) (sr_ fun _ hK68 => ?_)
   exact by (
   refine v_ (Run.build (cells := zz1) rfl [] trivial (by kernel_rfl)) ?_
   refine WL.storeW HS 1 rfl rfl rfl rfl rfl rfl (oneL rfl) (by kernel_rfl) rfl (fun w69 HS => ?_)
   dsimp only [List.set] at HS
   refine ad_ hK68 ?_
   clear hK68
   refine WC.ret ?_
   replace HS := HS.deriveN (p := (kF k33 (⟨0, 0, 0, [], [], [], [], (⟨0, [], [], 0, 0⟩ : S29), (⟨[], []⟩ : S31)⟩ : S33) zl3)) (fun W_ hN_ => (k33_mk _ (⟨0, 0, 0, [], [], [], [], (⟨0, [], [], 0, 0⟩ : S29), (⟨[], []⟩ : S31)⟩ : S33) ((Nat.le_refl _)) (Kd.C_nil _ _) ((Nat.le_refl _)) (Kd.C_nil _ _) ((Nat.le_refl _)) (Kd.C_nil _ _) ((Nat.le_refl _)) (Kd.C_nil _ _) ((Nat.le_refl _)) (Kd.C_nil _ _) ((Nat.le_refl _)) (Kd.C_nil _ _) ((Nat.le_refl _)) (Kd.C_nil _ _) ((Nat.le_refl _)) (Kd.C_nil _ _)))
   obtain ⟨rfl, rfl⟩ := Prod.mk.inj (os H)
   exact fin2 Try.f7 rfl ⟨_, rfl, resv_box (HS.mu 1 rfl) underlying33 rfl (by kernel_rfl)⟩ rfl hR_ ⟨_, rfl, (foot_fresh (HS.footN 0 rfl)), HS.b⟩ )
 refine wn_ (nB c29) (WC.skip (via_ hK27 (WC.seq fun _ hK30 => ?_)))
 clear hK27
 refine sr_ fun _ hK31 => ?_
 refine mv_ ?_
 refine v_ (Run.lenStr rfl underlying9 rfl) ?_
 refine v_ (ls_ (HS.mu 0 rfl) underlying61 part_all) ?_
 obtain ⟨t32, ha33, H⟩ := bind_some H
 exact by (
 refine cs_ HS func24 (ibytes.runs k (⟨t17.1.f0, t17.1.f1, t17.1.f2, t17.1.f3, t17.1.f4, t17.1.f5, t17.1.f6⟩ : S61) A20 c21 t32 _ (HS.getN 0 rfl) le22 ha33) (fun w34 HS => ?_)
 clear ha33
 refine b_ bin_neq ?_
 refine dn_ hK31 ?_
 clear hK31
 rcases eti_ H with ⟨c35, H⟩ | ⟨c35, H⟩
 · refine wy_ (qT c35) (sr_ fun _ hK66 => ?_)
   refine v_ (Run.build (cells := zz1) rfl [] trivial (by kernel_rfl)) ?_
   refine WL.storeW HS 1 rfl rfl rfl rfl rfl rfl (oneL rfl) (by kernel_rfl) rfl (fun w67 HS => ?_)
   dsimp only [List.set] at HS
   refine ad_ hK66 ?_
   clear hK66
   refine WC.ret ?_
   replace HS := HS.deriveN (p := (kF k33 (⟨0, 0, 0, [], [], [], [], (⟨0, [], [], 0, 0⟩ : S29), (⟨[], []⟩ : S31)⟩ : S33) zl3)) (fun W_ hN_ => (k33_mk _ (⟨0, 0, 0, [], [], [], [], (⟨0, [], [], 0, 0⟩ : S29), (⟨[], []⟩ : S31)⟩ : S33) ((Nat.le_refl _)) (Kd.C_nil _ _) ((Nat.le_refl _)) (Kd.C_nil _ _) ((Nat.le_refl _)) (Kd.C_nil _ _) ((Nat.le_refl _)) (Kd.C_nil _ _) ((Nat.le_refl _)) (Kd.C_nil _ _) ((Nat.le_refl _)) (Kd.C_nil _ _) ((Nat.le_refl _)) (Kd.C_nil _ _) ((Nat.le_refl _)) (Kd.C_nil _ _)))
   obtain ⟨rfl, rfl⟩ := Prod.mk.inj (os H)
   exact fin2 Try.f7 rfl ⟨_, rfl, resv_box (HS.mu 1 rfl) underlying33 rfl (by kernel_rfl)⟩ rfl hR_ ⟨_, rfl, (foot_fresh (HS.footN 0 rfl)), HS.b⟩
 exact by (
 refine wn_ (qF c35) (WC.skip (via_ hK30 (sr_ fun _ hK36 => ?_)))
 clear hK30
 refine mv_ ?_
 refine v_ (fa_ underlying61) ?_
 refine v_ (lb_ (HS.mu 0 rfl) underlying3 rfl) ?_
 refine v_ (Run.build (cells := #[.string t10.1, vi t17.1.f6, .bool false]) rfl [(0, .string t10.1), (1, vi t17.1.f6)] ⟨⟨rfl, rfl⟩, ⟨⟨rfl, rfl⟩, trivial⟩⟩ (by kernel_rfl)) ?_
 refine bo_ HS (fun b37 w38 hb37 HS => ?_)
 refine ad_ hK36 ?_
 clear hK36
 refine sr_ fun _ hK39 => ?_
 refine mv_ ?_
 refine v_ (ls_ (HS.mu 1 rfl) underlying61 part_all) ?_
 obtain ⟨t40, ha41, H⟩ := bind_some H
 refine c_ func25 (imodel.runs k b37 (⟨t10.1, t17.1.f6, false⟩ : S67) (⟨t17.1.f0, t17.1.f1, t17.1.f2, t17.1.f3, t17.1.f4, t17.1.f5, t17.1.f6⟩ : S61) A20 c21 _ t40.1 t40.2 _ _ HS.b (HS.nodupM 0 rfl) (HS.boundM 0 rfl) (HS.mu 0 rfl) (HS.footNM 0 rfl 0 rfl) le22 ha41) ?_
 clear ha41
 rintro _ w42 ⟨cs43, rfl, hf44, hbx_, hrest_, hB1_⟩
 exact by (
 replace HS := HS.newM 0 rfl hB1_ hrest_ hbx_ (foot_cons hf44 foot_nil)
 dsimp only [List.set] at HS
 have el45 : cs43.length = 14 := k33.K_len (Foot.now hf44)
 clear hB1_ hrest_ hbx_
 refine ⟨_, rfl, ?_⟩
 refine WL.alloc HS (v := .agg zz1) (cs := zz1) rfl rfl (by decide) rfl (by kernel_rfl) rfl (fun b46 w47 hb46 HS => ?_)
 refine WL.storeS HS 0 rfl rfl rfl rfl rfl rfl (Kd.K_one _ (HS.getN 0 rfl)) (by rw [el45]; kernel_rfl) (by rw [el45]; decide) (splice_all (by rw [el45]; rfl)) (fun w48 HS => ?_)
 dsimp only [List.set] at HS
 refine dn_ hK39 (sr_ fun _ hK49 => ?_)
 clear hK39
 refine v_ (Run.loadS (cs := cs43) rfl rfl underlying33 rfl (by rw [el45]; kernel_rfl) (box_part (HS.mu 0 rfl) part_all)) ?_
 obtain ⟨t50, ha51, H⟩ := bind_some H
 refine cs_ HS func6 (iMT.runs k cs43 t40.1 t50.1 t50.2 _ (HS.getN 0 rfl) ha51) (fun w52 HS => ?_)
 clear ha51
 refine mv_ ?_
 refine v_ (Run.extract rfl rfl rfl) ?_
 exact by (
 refine v_ (Run.extract rfl rfl rfl) ?_
 refine as_ ?_
 refine ad_ hK49 ?_
 clear hK49
 refine WC.seq fun _ hK53 => ?_
 refine sr_ fun _ hK54 => ?_
 refine mv_ ?_
 refine v_ (Run.nilCheck rfl rfl) ?_
 refine v_ (fa_ underlying67) ?_
 refine v_ (lb_ (HS.mu 1 rfl) underlying4 rfl) ?_
 refine mv_ ?_
 rcases ite_ H with ⟨c55, H⟩ | ⟨c55, H⟩
 · refine off_ (c' := true) c55 ?_
   refine WL.know 53 c55 ?_
   refine fast_ ?_
   refine via_ hK54 (wy_ rfl ?_)
   exact by (
   clear hK54
   refine sr_ fun _ hK56 => ?_
   refine v_ (Run.build (cells := zz1) rfl [] trivial (by kernel_rfl)) ?_
   refine WL.storeW HS 3 rfl rfl rfl rfl rfl rfl (oneL rfl) (by kernel_rfl) rfl (fun w57 HS => ?_)
   dsimp only [List.set] at HS
   refine ad_ hK56 ?_
   clear hK56
   refine WC.ret ?_
   replace HS := HS.deriveN (p := (kF k33 (⟨0, 0, 0, [], [], [], [], (⟨0, [], [], 0, 0⟩ : S29), (⟨[], []⟩ : S31)⟩ : S33) zl3)) (fun W_ hN_ => (k33_mk _ (⟨0, 0, 0, [], [], [], [], (⟨0, [], [], 0, 0⟩ : S29), (⟨[], []⟩ : S31)⟩ : S33) ((Nat.le_refl _)) (Kd.C_nil _ _) ((Nat.le_refl _)) (Kd.C_nil _ _) ((Nat.le_refl _)) (Kd.C_nil _ _) ((Nat.le_refl _)) (Kd.C_nil _ _) ((Nat.le_refl _)) (Kd.C_nil _ _) ((Nat.le_refl _)) (Kd.C_nil _ _) ((Nat.le_refl _)) (Kd.C_nil _ _) ((Nat.le_refl _)) (Kd.C_nil _ _)))
   obtain ⟨rfl, rfl⟩ := Prod.mk.inj (os H)
   exact fin2 Try.f7 rfl ⟨_, rfl, resv_box (HS.mu 3 rfl) underlying33 rfl (by kernel_rfl)⟩ rfl hR_ ⟨_, rfl, (foot_fresh (HS.footN 0 rfl)), HS.b⟩ )
 refine on_ (bF c55) (mv_ ?_)
 refine on_ (bF c55) (nt_ ?_)
 refine v_ (Run.pickF rfl rfl (bF c55) rfl) ?_
 refine mv_ ?_
 rcases eti_ H with ⟨c58, H⟩ | ⟨c58, H⟩
 · refine off_ (c' := true) (nB (bF c58)) ?_
   exact by (
   refine WL.know 57 (nB (bF c58)) ?_
   refine fast_ ?_
   refine via_ hK54 (wy_ rfl ?_)
   clear hK54
   refine sr_ fun _ hK64 => ?_
   refine v_ (Run.build (cells := zz1) rfl [] trivial (by kernel_rfl)) ?_
   refine WL.storeW HS 3 rfl rfl rfl rfl rfl rfl (oneL rfl) (by kernel_rfl) rfl (fun w65 HS => ?_)
   dsimp only [List.set] at HS
   refine ad_ hK64 ?_
   clear hK64
   refine WC.ret ?_
   replace HS := HS.deriveN (p := (kF k33 (⟨0, 0, 0, [], [], [], [], (⟨0, [], [], 0, 0⟩ : S29), (⟨[], []⟩ : S31)⟩ : S33) zl3)) (fun W_ hN_ => (k33_mk _ (⟨0, 0, 0, [], [], [], [], (⟨0, [], [], 0, 0⟩ : S29), (⟨[], []⟩ : S31)⟩ : S33) ((Nat.le_refl _)) (Kd.C_nil _ _) ((Nat.le_refl _)) (Kd.C_nil _ _) ((Nat.le_refl _)) (Kd.C_nil _ _) ((Nat.le_refl _)) (Kd.C_nil _ _) ((Nat.le_refl _)) (Kd.C_nil _ _) ((Nat.le_refl _)) (Kd.C_nil _ _) ((Nat.le_refl _)) (Kd.C_nil _ _) ((Nat.le_refl _)) (Kd.C_nil _ _)))
   obtain ⟨rfl, rfl⟩ := Prod.mk.inj (os H)
   exact fin2 Try.f7 rfl ⟨_, rfl, resv_box (HS.mu 3 rfl) underlying33 rfl (by kernel_rfl)⟩ rfl hR_ ⟨_, rfl, (foot_fresh (HS.footN 0 rfl)), HS.b⟩ )
 refine on_ (nB c58) (mv_ ?_)
 refine on_ (nB c58) (mv_ ?_)
 exact by (
 refine on_ (nB c58) (v_ (Run.binT rfl rfl rfl bin_neqT) ?_)
 refine v_ (Run.pickF rfl rfl (nB c58) rfl) ?_
 refine dn_ hK54 ?_
 clear hK54
 rcases ite_ H with ⟨c59, H⟩ | ⟨c59, H⟩
 · refine wn_ (qF c59) (WC.skip (via_ hK53 (sr_ fun _ hK60 => ?_)))
   clear hK53
   refine v_ (Run.loadS (cs := cs43) rfl rfl underlying33 rfl (by rw [el45]; kernel_rfl) (box_part (HS.mu 0 rfl) part_all)) ?_
   refine WL.storeS HS 3 rfl rfl rfl rfl rfl rfl (Kd.K_one _ (HS.getN 0 rfl)) (by rw [el45]; kernel_rfl) (by rw [el45]; decide) (splice_all (by rw [el45]; rfl)) (fun w61 HS => ?_)
   dsimp only [List.set] at HS
   refine ad_ hK60 ?_
   clear hK60
   obtain ⟨rfl, rfl⟩ := Prod.mk.inj (os H)
   exact rt2 Try.f7 rfl ⟨_, rfl, resv_box (HS.mu 3 rfl) underlying33 rfl (by rw [el45]; kernel_rfl)⟩ rfl hR_ ⟨_, rfl, (foot_fresh (HS.footN 0 rfl)), HS.b⟩
 refine wy_ (qT c59) (sr_ fun _ hK62 => ?_)
 refine v_ (Run.build (cells := zz1) rfl [] trivial (by kernel_rfl)) ?_
 exact by (
 refine WL.storeW HS 3 rfl rfl rfl rfl rfl rfl (oneL rfl) (by kernel_rfl) rfl (fun w63 HS => ?_)
 dsimp only [List.set] at HS
 refine ad_ hK62 ?_
 clear hK62
 refine WC.ret ?_
 replace HS := HS.deriveN (p := (kF k33 (⟨0, 0, 0, [], [], [], [], (⟨0, [], [], 0, 0⟩ : S29), (⟨[], []⟩ : S31)⟩ : S33) zl3)) (fun W_ hN_ => (k33_mk _ (⟨0, 0, 0, [], [], [], [], (⟨0, [], [], 0, 0⟩ : S29), (⟨[], []⟩ : S31)⟩ : S33) ((Nat.le_refl _)) (Kd.C_nil _ _) ((Nat.le_refl _)) (Kd.C_nil _ _) ((Nat.le_refl _)) (Kd.C_nil _ _) ((Nat.le_refl _)) (Kd.C_nil _ _) ((Nat.le_refl _)) (Kd.C_nil _ _) ((Nat.le_refl _)) (Kd.C_nil _ _) ((Nat.le_refl _)) (Kd.C_nil _ _) ((Nat.le_refl _)) (Kd.C_nil _ _)))
 obtain ⟨rfl, rfl⟩ := Prod.mk.inj (os H)
 exact fin2 Try.f7 rfl ⟨_, rfl, resv_box (HS.mu 3 rfl) underlying33 rfl (by kernel_rfl)⟩ rfl hR_ ⟨_, rfl, (foot_fresh (HS.footN 0 rfl)), HS.b⟩ ))))))))
end Go.Proofs.Ytbdbadkinjbpcaa.PFnFiles
