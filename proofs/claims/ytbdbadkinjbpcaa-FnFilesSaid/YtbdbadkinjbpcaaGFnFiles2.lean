/- Functions that the statement reaches, as Lean functions, and the proof that a call of each comes to just its answer; written by this claim's own program. No conditions. -/
import Derived.Test.YtbdbadkinjbpcaaGFnFiles1
namespace Go.Proofs.Ytbdbadkinjbpcaa.PFnFiles
open Try
open Go.RowKit Go.Proofs.YtbdbadkinjbpcaaW.PrintWords Go.Proofs.YtbdbadkinjbpcaaW.PrintLast Go.Proofs.YtbdbadkinjbpcaaW.PrintMore Go.Proofs.Ytbdbadkinjbpcaa.XW Go.Proofs.Ytbdbadkinjbpcaa.XOp Go.Proofs.Ytbdbadkinjbpcaa.XSt Go.Proofs.Ytbdbadkinjbpcaa.XDraw
set_option linter.unusedVariables false
set_option linter.unusedSimpArgs false
set_option maxHeartbeats 4000000
set_option maxRecDepth 20000
def sR.b4 (t5 : Int × S83) (t31 : Int × S83) (i40 : Int) (rec_ : (List Int) → Int → Option ((List Int) × Int)) (k399 : Nat) (xs377 : List Int) (i380 : Int) : Option ((List Int) × Int) := (if i380 < (wrap64 (4 * (wrap64 (1 + t5.1)))) then (if (xs377.length) < 4294967296 then (rec_ (xs377 ++ [wrap64 ((Int.tmod (wrap64 ((wrap64 ((wrap64 (t31.1 + (wrap64 (i40 * 37)))) + (wrap64 (i380 * 91)))) + (wrap64 ((wrap64 (i40 * i380)) * 13)))) 255) - 127)]) (wrap64 (i380 + 1))) else none) else (some (xs377, i380)))
def sR.l4 (t5 : Int × S83) (t31 : Int × S83) (i40 : Int) : Nat → (List Int) → Int → Option ((List Int) × Int)
 | 0, _, _ => none
 | k + 1, xs377, i380 => sR.b4 t5 t31 i40 (sR.l4 t5 t31 i40 k) k xs377 i380
def sR.b3 (t5 : Int × S83) (t27 : Int) (t31 : Int × S83) (rec_ : Int → (List (List Int)) → Option (Int × (List (List Int)))) (k363 : Nat) (i40 : Int) (xs41 : List (List Int)) : Option (Int × (List (List Int))) := (if i40 < t27 then ((sR.l4 t5 t31 i40 k363 ([] : List Int) 0).bind (fun oc397 => (if (xs41.length) < 4294967296 then (rec_ (wrap64 (i40 + 1)) (xs41 ++ [oc397.1])) else none))) else (some (i40, xs41)))
def sR.l3 (t5 : Int × S83) (t27 : Int) (t31 : Int × S83) : Nat → Int → (List (List Int)) → Option (Int × (List (List Int)))
 | 0, _, _ => none
 | k + 1, i40, xs41 => sR.b3 t5 t27 t31 (sR.l3 t5 t27 t31 k) k i40 xs41
def sR.b2 (x0 : S83) (t5 : Int × S83) (rec_ : Int → Int → Int → (List S52) → Option (Int × Int × Int × (List S52))) (k213 : Nat) (i53 : Int) (i54 : Int) (i55 : Int) (xs56 : List S52) : Option (Int × Int × Int × (List S52)) := ((sB.g k213 (⟨x0.f0, i54, i55⟩ : S83) 2).bind fun t216 => (if i53 < (wrap64 (1 + t216.1)) then ((sB.g k213 (⟨x0.f0, t216.2.f1, t216.2.f2⟩ : S83) 2).bind fun t222 => ((sG.g k213 (⟨x0.f0, t222.2.f1, t222.2.f2⟩ : S83) (wrap64 (4 * (wrap64 (1 + t5.1))))).bind fun t228 => ((sG.g k213 (⟨x0.f0, t228.2.f1, t228.2.f2⟩ : S83) (wrap64 (4 * (wrap64 (1 + t5.1))))).bind fun t235 => ((sM.g k213 (⟨x0.f0, t235.2.f1, t235.2.f2⟩ : S83) (wrap64 (4 * (wrap64 (1 + t5.1)))) (wrap64 (4 * (wrap64 (1 + t5.1))))).bind fun t274 => ((sM.g k213 (⟨x0.f0, t274.2.f1, t274.2.f2⟩ : S83) (wrap64 (4 * (wrap64 (1 + t5.1)))) (wrap64 (4 * (wrap64 (1 + t5.1))))).bind fun t287 => ((sM.g k213 (⟨x0.f0, t287.2.f1, t287.2.f2⟩ : S83) (wrap64 (4 * (wrap64 (1 + t5.1)))) (wrap64 (4 * (wrap64 (1 + t5.1))))).bind fun t300 => ((sM.g k213 (⟨x0.f0, t300.2.f1, t300.2.f2⟩ : S83) (wrap64 (4 * (wrap64 (1 + t5.1)))) (wrap64 (4 * (wrap64 (1 + t5.1))))).bind fun t313 => ((sM.g k213 (⟨x0.f0, t313.2.f1, t313.2.f2⟩ : S83) (wrap64 (4 * (wrap64 (1 + t5.1)))) (wrap64 (4 * (wrap64 (1 + t222.1))))).bind fun t326 => ((sM.g k213 (⟨x0.f0, t326.2.f1, t326.2.f2⟩ : S83) (wrap64 (4 * (wrap64 (1 + t222.1)))) (wrap64 (4 * (wrap64 (1 + t5.1))))).bind fun t339 => (if (xs56.length) < 4294967296 then (rec_ (wrap64 (i53 + 1)) t339.2.f1 t339.2.f2 (xs56 ++ [(⟨t228.1, (⟨t274.1.f0, t274.1.f1, t274.1.f2, t274.1.f3, t274.1.f4⟩ : S29), (⟨t287.1.f0, t287.1.f1, t287.1.f2, t287.1.f3, t287.1.f4⟩ : S29), (⟨t300.1.f0, t300.1.f1, t300.1.f2, t300.1.f3, t300.1.f4⟩ : S29), (⟨t313.1.f0, t313.1.f1, t313.1.f2, t313.1.f3, t313.1.f4⟩ : S29), t235.1, (⟨t326.1.f0, t326.1.f1, t326.1.f2, t326.1.f3, t326.1.f4⟩ : S29), (⟨t339.1.f0, t339.1.f1, t339.1.f2, t339.1.f3, t339.1.f4⟩ : S29)⟩ : S52)])) else none)))))))))) else (some (i53, t216.2.f1, t216.2.f2, xs56))))
def sR.l2 (x0 : S83) (t5 : Int × S83) : Nat → Int → Int → Int → (List S52) → Option (Int × Int × Int × (List S52))
 | 0, _, _, _, _ => none
 | k + 1, i53, i54, i55, xs56 => sR.b2 x0 t5 (sR.l2 x0 t5 k) k i53 i54 i55 xs56
def sR.b1 (t5 : Int × S83) (t31 : Int × S83) (t74 : Int × S83) (i83 : Int) (rec_ : (List Int) → (List Int) → Int → Option ((List Int) × (List Int) × Int)) (k180 : Nat) (xs141 : List Int) (xs144 : List Int) (i147 : Int) : Option ((List Int) × (List Int) × Int) := (if i147 < (wrap64 (4 * (wrap64 (1 + t5.1)))) then (((if (xs141.length) < 4294967296 then (if (Int.tmod i147 4) = 0 then (if (xs144.length) < 4294967296 then (some ((xs141 ++ [wrap64 ((Int.tmod (wrap64 ((wrap64 ((wrap64 (t31.1 + (wrap64 (i83 * (wrap64 (1 + t74.1)))))) + (wrap64 (i147 * 7)))) + (wrap64 (i83 * i147)))) 16) - 8)]), (xs144 ++ [wrap64 (1 + (Int.tmod (wrap64 ((wrap64 ((wrap64 (i83 * 3)) + i147)) + t31.1)) 30))]))) else none) else (some ((xs141 ++ [wrap64 ((Int.tmod (wrap64 ((wrap64 ((wrap64 (t31.1 + (wrap64 (i83 * (wrap64 (1 + t74.1)))))) + (wrap64 (i147 * 7)))) + (wrap64 (i83 * i147)))) 16) - 8)]), xs144))) else none) : Option ((List Int) × (List Int))).bind (fun oc197 => (rec_ oc197.1 oc197.2 (wrap64 (i147 + 1))))) else (some (xs141, xs144, i147)))
def sR.l1 (t5 : Int × S83) (t31 : Int × S83) (t74 : Int × S83) (i83 : Int) : Nat → (List Int) → (List Int) → Int → Option ((List Int) × (List Int) × Int)
 | 0, _, _, _ => none
 | k + 1, xs141, xs144, i147 => sR.b1 t5 t31 t74 i83 (sR.l1 t5 t31 t74 i83 k) k xs141 xs144 i147
def sR.b0 (t5 : Int × S83) (t27 : Int) (t31 : Int × S83) (t74 : Int × S83) (rec_ : Int → (List (List Int)) → (List (List Int)) → Option (Int × (List (List Int)) × (List (List Int)))) (k124 : Nat) (i83 : Int) (xs84 : List (List Int)) (xs87 : List (List Int)) : Option (Int × (List (List Int)) × (List (List Int))) := (if i83 < t27 then ((sR.l1 t5 t31 t74 i83 k124 ([] : List Int) ([] : List Int) 0).bind (fun oc178 => (if (xs84.length) < 4294967296 then (if (xs87.length) < 4294967296 then (rec_ (wrap64 (i83 + 1)) (xs84 ++ [oc178.1]) (xs87 ++ [oc178.2.1])) else none) else none))) else (some (i83, xs84, xs87)))
def sR.l0 (t5 : Int × S83) (t27 : Int) (t31 : Int × S83) (t74 : Int × S83) : Nat → Int → (List (List Int)) → (List (List Int)) → Option (Int × (List (List Int)) × (List (List Int)))
 | 0, _, _, _ => none
 | k + 1, i83, xs84, xs87 => sR.b0 t5 t27 t31 t74 (sR.l0 t5 t27 t31 t74 k) k i83 xs84 xs87
def sR.g (k : Nat) (x0 : S83) : Option (S33 × S83) := ((sB.g k (⟨x0.f0, x0.f1, x0.f2⟩ : S83) 2).bind fun t5 => ((sB.g k (⟨x0.f0, t5.2.f1, t5.2.f2⟩ : S83) 2).bind fun t8 => ((sB.g k (⟨x0.f0, t8.2.f1, t8.2.f2⟩ : S83) 15).bind fun t11 => ((sM2.g k (⟨x0.f0, t11.2.f1, t11.2.f2⟩ : S83)).bind fun t18 => ((sV.g k (⟨wrap64 (4 * (wrap64 (1 + t5.1))), wrap64 (1 + t8.1), wrap64 (4 + t11.1), t18.1, [], [], [], (⟨0, [], [], 0, 0⟩ : S29), (⟨[], []⟩ : S31)⟩ : S33)).bind fun t27 => ((sB.g k (⟨x0.f0, t18.2.f1, t18.2.f2⟩ : S83) 1000).bind fun t31 => ((sR.l3 t5 t27 t31 k 0 ([] : List (List Int))).bind (fun oc361 => ((sR.l2 x0 t5 k 0 t31.2.f1 t31.2.f2 ([] : List S52)).bind (fun oc211 => ((sG.g k (⟨x0.f0, oc211.2.1, oc211.2.2.1⟩ : S83) (wrap64 (4 * (wrap64 (1 + t5.1))))).bind fun t63 => ((sB.g k (⟨x0.f0, t63.2.f1, t63.2.f2⟩ : S83) 40).bind fun t74 => ((sR.l0 t5 t27 t31 t74 k 0 ([] : List (List Int)) ([] : List (List Int))).bind (fun oc122 => (if (wrap64 (1 + t8.1)) ≠ 0 then ((sTF.g k (wrap64 (4 + t11.1)) (wrap64 (Int.tdiv (wrap64 (Int.tdiv (wrap64 (4 * (wrap64 (1 + t5.1)))) (wrap64 (1 + t8.1)))) 2))).bind fun t96 => (some ((⟨wrap64 (4 * (wrap64 (1 + t5.1))), wrap64 (1 + t8.1), wrap64 (4 + t11.1), t18.1, oc361.2, oc211.2.2.2, t63.1, (⟨wrap64 (4 * (wrap64 (1 + t5.1))), oc122.2.1, oc122.2.2, 1, 1⟩ : S29), (⟨t96.1.f0, t96.1.f1⟩ : S31)⟩ : S33), (⟨x0.f0, t74.2.f1, t74.2.f2⟩ : S83)))) else none)))))))))))))))
theorem sR.runs (k : Nat) (b0 : Nat) (x0 : S83) (A0_0 : Option Addr) (c0_0 : Nat) (bs_ : List Nat) (r1 : S33) (y_ : S83) (w0 w : World) (hB_ : Below w0.heap.size w0 w) (hn_ : (b0 :: bs_).Nodup) (hl_ : ∀ k, k ∈ b0 :: bs_ → w0.heap.size ≤ k ∧ k < w.heap.size) (hr0_0 : Foot (cF kU A0_0 x0.f0) w (fun k_ => k_ ∉ b0 :: bs_)) (hc0_0 : x0.f0.length ≤ c0_0) (hb0 : w.heap[b0]? = some (.cells #[.slice A0_0 x0.f0.length c0_0, vi x0.f1, vi x0.f2] 83 (0, 0))) (H : sR.g k x0 = some (r1, y_)) :
   Calls prog 13 #[.pointer (some ⟨b0, 0, none⟩)] w fun e w' => ∃ (cs0_ : List Value), e = .returned (.agg cs0_.toArray) ∧ Foot (kF k33 r1 cs0_) w' (fun k_ => w0.heap.size ≤ k_ ∧ k_ ∉ b0 :: bs_) ∧ w'.heap[b0]? = some (.cells #[.slice A0_0 x0.f0.length c0_0, vi y_.f1, vi y_.f2] 83 (0, 0)) ∧ RestOf w w' b0 ∧ Below w0.heap.size w0 w' := by
 unfold sR.g at H
 have HS : St (fun _ => True) w0 w [boxM b0 #[.slice A0_0 x0.f0.length c0_0, vi x0.f1, vi x0.f2] 83, keepM w bs_] [(frameF w b0 bs_), (cF kU A0_0 x0.f0)] [] := St.startM hB_ hn_ hl_ hb0 (foot_cons hr0_0 foot_nil)
 refine cw_ (n := 222) func13 fun R_ hR_ => ?_
 refine sr_ fun _ hK1 => ?_
 refine WL.alloc HS (v := .agg zz1) (cs := zz1) rfl rfl (by decide) rfl (by kernel_rfl) rfl (fun b2 w3 hb2 HS => ?_)
 refine dn_ hK1 (sr_ fun _ hK4 => ?_)
 clear hK1
 refine mv_ ?_
 obtain ⟨t5, ha6, H⟩ := bind_some H
 refine c_ func14 (sB.runs k b0 (⟨x0.f0, x0.f1, x0.f2⟩ : S83) A0_0 c0_0 2 _ t5.1 t5.2 _ _ HS.b (HS.nodupM 1 rfl) (HS.boundM 1 rfl) (HS.footOM 1 rfl 1 rfl) hc0_0 (HS.mu 1 rfl) ha6) ?_
 clear ha6
 rintro _ w7 ⟨rfl, hbx_, hrest_, hB1_⟩
 replace HS := HS.calledM 1 rfl hB1_ hrest_ hbx_
 dsimp only [List.set] at HS
 clear hB1_ hrest_ hbx_
 refine ⟨_, rfl, ?_⟩
 exact by (
 refine b_ bin_add64 ?_
 refine b_ bin_mul64 ?_
 refine mv_ ?_
 obtain ⟨t8, ha9, H⟩ := bind_some H
 refine c_ func14 (sB.runs k b0 (⟨x0.f0, t5.2.f1, t5.2.f2⟩ : S83) A0_0 c0_0 2 _ t8.1 t8.2 _ _ HS.b (HS.nodupM 1 rfl) (HS.boundM 1 rfl) (HS.footOM 1 rfl 1 rfl) hc0_0 (HS.mu 1 rfl) ha9) ?_
 clear ha9
 rintro _ w10 ⟨rfl, hbx_, hrest_, hB1_⟩
 replace HS := HS.calledM 1 rfl hB1_ hrest_ hbx_
 dsimp only [List.set] at HS
 clear hB1_ hrest_ hbx_
 refine ⟨_, rfl, ?_⟩
 refine b_ bin_add64 ?_
 refine mv_ ?_
 obtain ⟨t11, ha12, H⟩ := bind_some H
 refine c_ func14 (sB.runs k b0 (⟨x0.f0, t8.2.f1, t8.2.f2⟩ : S83) A0_0 c0_0 15 _ t11.1 t11.2 _ _ HS.b (HS.nodupM 1 rfl) (HS.boundM 1 rfl) (HS.footOM 1 rfl 1 rfl) hc0_0 (HS.mu 1 rfl) ha12) ?_
 clear ha12
 exact by (
 rintro _ w13 ⟨rfl, hbx_, hrest_, hB1_⟩
 replace HS := HS.calledM 1 rfl hB1_ hrest_ hbx_
 dsimp only [List.set] at HS
 clear hB1_ hrest_ hbx_
 refine ⟨_, rfl, ?_⟩
 refine b_ bin_add64 ?_
 refine v_ (Run.build (cells := #[vi (wrap64 (4 * (wrap64 (1 + t5.1)))), vi (wrap64 (1 + t8.1)), vi (wrap64 (4 + t11.1)), sn, sn, sn, sn, vi 0, sn, sn, vi 0, vi 0, sn, sn]) rfl [(0, vi (wrap64 (4 * (wrap64 (1 + t5.1))))), (1, vi (wrap64 (1 + t8.1))), (2, vi (wrap64 (4 + t11.1)))] ⟨⟨rfl, rfl⟩, ⟨⟨rfl, rfl⟩, ⟨⟨rfl, rfl⟩, trivial⟩⟩⟩ (by kernel_rfl)) ?_
 refine WL.alloc HS (v := .agg zz1) (cs := zz1) rfl rfl (by decide) rfl (by kernel_rfl) rfl (fun b14 w15 hb14 HS => ?_)
 refine WL.storeW HS 0 rfl rfl rfl rfl rfl rfl (oneL rfl) (by kernel_rfl) rfl (fun w16 HS => ?_)
 dsimp only [List.set] at HS
 refine dn_ hK4 (sr_ fun _ hK17 => ?_)
 clear hK4
 refine mv_ ?_
 obtain ⟨t18, ha19, H⟩ := bind_some H
 refine c_ func40 (sM2.runs k b0 (⟨x0.f0, t11.2.f1, t11.2.f2⟩ : S83) A0_0 c0_0 _ t18.1 t18.2 _ _ HS.b (HS.nodupM 2 rfl) (HS.boundM 2 rfl) (HS.footOM 2 rfl 1 rfl) hc0_0 (HS.mu 2 rfl) ha19) ?_
 clear ha19
 exact by (
 rintro _ w20 ⟨A21, c22, rfl, le23, hf24, hbx_, hrest_, hB1_⟩
 replace HS := HS.newM 2 rfl hB1_ hrest_ hbx_ (foot_cons hf24 foot_nil)
 dsimp only [List.set] at HS
 clear hB1_ hrest_ hbx_
 refine ⟨_, rfl, ?_⟩
 refine v_ (fa_ underlying33) ?_
 refine WL.store HS 0 rfl rfl rfl rfl rfl rfl rfl (by kernel_rfl) (ble_ rfl) (cs' := #[vi (wrap64 (4 * (wrap64 (1 + t5.1)))), vi (wrap64 (1 + t8.1)), vi (wrap64 (4 + t11.1)), .slice A21 t18.1.length c22, sn, sn, sn, vi 0, sn, sn, vi 0, vi 0, sn, sn]) (by kernel_rfl) (fun w25 HS => ?_)
 dsimp only [List.set] at HS
 refine dn_ hK17 (sr_ fun _ hK26 => ?_)
 clear hK17
 refine v_ (ls_ (HS.mu 0 rfl) underlying33 part_all) ?_
 replace HS := HS.deriveN (p := (kF k33 (⟨wrap64 (4 * (wrap64 (1 + t5.1))), wrap64 (1 + t8.1), wrap64 (4 + t11.1), t18.1, [], [], [], (⟨0, [], [], 0, 0⟩ : S29), (⟨[], []⟩ : S31)⟩ : S33) [vi (wrap64 (4 * (wrap64 (1 + t5.1)))), vi (wrap64 (1 + t8.1)), vi (wrap64 (4 + t11.1)), .slice A21 t18.1.length c22, sn, sn, sn, vi 0, sn, sn, vi 0, vi 0, sn, sn])) (fun W_ hN_ => (k33_mk _ (⟨wrap64 (4 * (wrap64 (1 + t5.1))), wrap64 (1 + t8.1), wrap64 (4 + t11.1), t18.1, [], [], [], (⟨0, [], [], 0, 0⟩ : S29), (⟨[], []⟩ : S31)⟩ : S33) (le23) hN_.1 ((Nat.le_refl _)) (Kd.C_nil _ _) ((Nat.le_refl _)) (Kd.C_nil _ _) ((Nat.le_refl _)) (Kd.C_nil _ _) ((Nat.le_refl _)) (Kd.C_nil _ _) ((Nat.le_refl _)) (Kd.C_nil _ _) ((Nat.le_refl _)) (Kd.C_nil _ _) ((Nat.le_refl _)) (Kd.C_nil _ _)))
 obtain ⟨t27, ha28, H⟩ := bind_some H
 refine cs_ HS func15 (sV.runs k ([vi (wrap64 (4 * (wrap64 (1 + t5.1)))), vi (wrap64 (1 + t8.1)), vi (wrap64 (4 + t11.1)), .slice A21 t18.1.length c22, sn, sn, sn, vi 0, sn, sn, vi 0, vi 0, sn, sn]) (⟨wrap64 (4 * (wrap64 (1 + t5.1))), wrap64 (1 + t8.1), wrap64 (4 + t11.1), t18.1, [], [], [], (⟨0, [], [], 0, 0⟩ : S29), (⟨[], []⟩ : S31)⟩ : S33) t27 _ (HS.getN 0 rfl) ha28) (fun w29 HS => ?_)
 clear ha28
 refine ad_ hK26 ?_
 exact by (
 clear hK26
 refine sr_ fun _ hK30 => ?_
 refine mv_ ?_
 obtain ⟨t31, ha32, H⟩ := bind_some H
 refine c_ func14 (sB.runs k b0 (⟨x0.f0, t18.2.f1, t18.2.f2⟩ : S83) A0_0 c0_0 1000 _ t31.1 t31.2 _ _ HS.b (HS.nodupM 2 rfl) (HS.boundM 2 rfl) (HS.footOM 2 rfl 1 rfl) hc0_0 (HS.mu 2 rfl) ha32) ?_
 clear ha32
 rintro _ w33 ⟨rfl, hbx_, hrest_, hB1_⟩
 replace HS := HS.calledM 2 rfl hB1_ hrest_ hbx_
 dsimp only [List.set] at HS
 clear hB1_ hrest_ hbx_
 refine ⟨_, rfl, ?_⟩
 refine ad_ hK30 ?_
 clear hK30
 refine WC.seq fun K34 hK34 => ?_
 refine sr_ fun _ hK35 => ?_
 refine ad_ hK35 ?_
 exact by (
 clear hK35
 refine WC.block ?_
 replace HS := HS.rowNil 27 1
 replace HS := HS.deriveN (p := (rF kS3 ([] : List (List Int)) [])) (fun _ _ => Reps.none _ _)
 obtain ⟨G36, hG37, oc38, H, Ho39⟩ := open_G H
 let J44 := fun (i40 : Int) (xs41 : List (List Int)) v42 I43 (E_ : Env) (W_ : World) => E_ = [(0, .pointer (some ⟨b0, 0, none⟩)), (2, .pointer (some ⟨b2, 0, none⟩)), (3, .pointer (some ⟨b14, 0, none⟩)), (4, vi t27), (5, vi t31.1), (6, vi i40)] ∧ St (fun _ => True) w0 W_ [rowM w0.heap.size 27 1 v42 xs41.length I43, boxM b14 #[vi (wrap64 (4 * (wrap64 (1 + t5.1)))), vi (wrap64 (1 + t8.1)), vi (wrap64 (4 + t11.1)), .slice A21 t18.1.length c22, v42, sn, sn, vi 0, sn, sn, vi 0, vi 0, sn, sn] 33, boxM b2 zz1 33, boxM b0 #[.slice A0_0 x0.f0.length c0_0, vi t31.2.f1, vi t31.2.f2] 83, keepM w bs_] [(frameF w b0 bs_), (cF kU A0_0 x0.f0)] [(rF kS3 xs41 I43), (cF k54 A21 t18.1)]
 have X45 : ∀ E_ W_, (∃ i40 xs41 v42 I43, G36 (i40, xs41) = some (r1, y_) ∧ J44 i40 xs41 v42 I43 E_ W_) → ∀ a, Fits a 222 E_ → K34 a W_ := by
   rintro E_ w46 ⟨i40, xs41, v42, I43, H, rfl, HS⟩
   rw [hG37] at H
   (try dsimp only at H)
   refine hK34 _ _ ?_
   clear hK34
   refine WC.seq fun K47 hK47 => ?_
   refine sr_ fun _ hK48 => ?_
   refine ad_ hK48 ?_
   clear hK48
   exact by (
   refine WC.block ?_
   replace HS := HS.rowNil 52 32
   replace HS := HS.deriveN (p := (rF k52 ([] : List S52) [])) (fun _ _ => Reps.none _ _)
   obtain ⟨G49, hG50, oc51, H, Ho52⟩ := open_G H
   let J59 := fun (i53 : Int) (i54 : Int) (i55 : Int) (xs56 : List S52) v57 I58 (E_ : Env) (W_ : World) => E_ = [(0, .pointer (some ⟨b0, 0, none⟩)), (2, .pointer (some ⟨b2, 0, none⟩)), (3, .pointer (some ⟨b14, 0, none⟩)), (4, vi t27), (5, vi t31.1), (9, vi i53)] ∧ St (fun _ => True) w0 W_ [rowM w0.heap.size 52 32 v57 xs56.length I58, rowM w0.heap.size 27 1 v42 xs41.length I43, boxM b14 #[vi (wrap64 (4 * (wrap64 (1 + t5.1)))), vi (wrap64 (1 + t8.1)), vi (wrap64 (4 + t11.1)), .slice A21 t18.1.length c22, v42, v57, sn, vi 0, sn, sn, vi 0, vi 0, sn, sn] 33, boxM b2 zz1 33, boxM b0 #[.slice A0_0 x0.f0.length c0_0, vi i54, vi i55] 83, keepM w bs_] [(frameF w b0 bs_), (cF kU A0_0 x0.f0)] [(rF k52 xs56 I58), (rF kS3 xs41 I43), (cF k54 A21 t18.1)]
   have X60 : ∀ E_ W_, (∃ i53 i54 i55 xs56 v57 I58, G49 (i53, i54, i55, xs56) = some (r1, y_) ∧ J59 i53 i54 i55 xs56 v57 I58 E_ W_) → ∀ a, Fits a 222 E_ → K47 a W_ := by
     rintro E_ w61 ⟨i53, i54, i55, xs56, v57, I58, H, rfl, HS⟩
     rw [hG50] at H
     (try dsimp only at H)
     refine hK47 _ _ ?_
     clear hK47
     refine sr_ fun _ hK62 => ?_
     refine mv_ ?_
     refine v_ (fa_ underlying33) ?_
     refine v_ (lb_ (HS.mu 2 rfl) underlying3 rfl) ?_
     obtain ⟨t63, ha64, H⟩ := bind_some H
     exact by (
     refine c_ func41 (sG.runs k b0 (⟨x0.f0, i54, i55⟩ : S83) A0_0 c0_0 (wrap64 (4 * (wrap64 (1 + t5.1)))) _ t63.1 t63.2 _ _ HS.b (HS.nodupM 4 rfl) (HS.boundM 4 rfl) (HS.footOM 4 rfl 1 rfl) hc0_0 (HS.mu 4 rfl) ha64) ?_
     clear ha64
     rintro _ w65 ⟨A66, c67, rfl, le68, hf69, hbx_, hrest_, hB1_⟩
     replace HS := HS.newM 4 rfl hB1_ hrest_ hbx_ (foot_cons hf69 foot_nil)
     dsimp only [List.set] at HS
     clear hB1_ hrest_ hbx_
     refine ⟨_, rfl, ?_⟩
     refine v_ (fa_ underlying33) ?_
     refine WL.store HS 2 rfl rfl rfl rfl rfl rfl rfl (by kernel_rfl) (ble_ rfl) (cs' := #[vi (wrap64 (4 * (wrap64 (1 + t5.1)))), vi (wrap64 (1 + t8.1)), vi (wrap64 (4 + t11.1)), .slice A21 t18.1.length c22, v42, v57, .slice A66 t63.1.length c67, vi 0, sn, sn, vi 0, vi 0, sn, sn]) (by kernel_rfl) (fun w70 HS => ?_)
     dsimp only [List.set] at HS
     refine dn_ hK62 (sr_ fun _ hK71 => ?_)
     clear hK62
     refine v_ (fa_ underlying33) ?_
     refine v_ (lb_ (HS.mu 2 rfl) underlying3 rfl) ?_
     refine v_ (Run.build (cells := #[vi (wrap64 (4 * (wrap64 (1 + t5.1)))), sn, sn, vi 1, vi 1]) rfl [(0, vi (wrap64 (4 * (wrap64 (1 + t5.1))))), (3, vi 1), (4, vi 1)] ⟨⟨rfl, rfl⟩, ⟨⟨rfl, rfl⟩, ⟨⟨rfl, rfl⟩, trivial⟩⟩⟩ (by kernel_rfl)) ?_
     refine v_ (fa_ underlying33) ?_
     exact by (
     refine WL.storeS HS 2 rfl rfl rfl rfl rfl rfl (oneL rfl) (by kernel_rfl) (ble_ rfl) (cs' := #[vi (wrap64 (4 * (wrap64 (1 + t5.1)))), vi (wrap64 (1 + t8.1)), vi (wrap64 (4 + t11.1)), .slice A21 t18.1.length c22, v42, v57, .slice A66 t63.1.length c67, vi (wrap64 (4 * (wrap64 (1 + t5.1)))), sn, sn, vi 1, vi 1, sn, sn]) (by kernel_rfl) (fun w72 HS => ?_)
     dsimp only [List.set] at HS
     refine dn_ hK71 (sr_ fun _ hK73 => ?_)
     clear hK71
     refine mv_ ?_
     obtain ⟨t74, ha75, H⟩ := bind_some H
     refine c_ func14 (sB.runs k b0 (⟨x0.f0, t63.2.f1, t63.2.f2⟩ : S83) A0_0 c0_0 40 _ t74.1 t74.2 _ _ HS.b (HS.nodupM 4 rfl) (HS.boundM 4 rfl) (HS.footOM 4 rfl 1 rfl) hc0_0 (HS.mu 4 rfl) ha75) ?_
     clear ha75
     rintro _ w76 ⟨rfl, hbx_, hrest_, hB1_⟩
     replace HS := HS.calledM 4 rfl hB1_ hrest_ hbx_
     dsimp only [List.set] at HS
     clear hB1_ hrest_ hbx_
     refine ⟨_, rfl, ?_⟩
     refine b_ bin_add64 ?_
     refine ad_ hK73 ?_
     clear hK73
     exact by (
     refine WC.seq fun K77 hK77 => ?_
     refine sr_ fun _ hK78 => ?_
     refine ad_ hK78 ?_
     clear hK78
     refine WC.block ?_
     replace HS := HS.rowNil 27 1
     replace HS := HS.deriveN (p := (rF kS3 ([] : List (List Int)) [])) (fun _ _ => Reps.none _ _)
     replace HS := HS.rowNil 27 1
     replace HS := HS.deriveN (p := (rF kS3 ([] : List (List Int)) [])) (fun _ _ => Reps.none _ _)
     obtain ⟨G79, hG80, oc81, H, Ho82⟩ := open_G H
     let J90 := fun (i83 : Int) (xs84 : List (List Int)) v85 I86 (xs87 : List (List Int)) v88 I89 (E_ : Env) (W_ : World) => E_ = [(2, .pointer (some ⟨b2, 0, none⟩)), (3, .pointer (some ⟨b14, 0, none⟩)), (4, vi t27), (5, vi t31.1), (12, vi (wrap64 (1 + t74.1))), (13, vi i83)] ∧ St (fun _ => True) w0 W_ [rowM w0.heap.size 27 1 v88 xs87.length I89, rowM w0.heap.size 27 1 v85 xs84.length I86, rowM w0.heap.size 52 32 v57 xs56.length I58, rowM w0.heap.size 27 1 v42 xs41.length I43, boxM b14 #[vi (wrap64 (4 * (wrap64 (1 + t5.1)))), vi (wrap64 (1 + t8.1)), vi (wrap64 (4 + t11.1)), .slice A21 t18.1.length c22, v42, v57, .slice A66 t63.1.length c67, vi (wrap64 (4 * (wrap64 (1 + t5.1)))), v85, v88, vi 1, vi 1, sn, sn] 33, boxM b2 zz1 33, boxM b0 #[.slice A0_0 x0.f0.length c0_0, vi t74.2.f1, vi t74.2.f2] 83, keepM w bs_] [(frameF w b0 bs_), (cF kU A0_0 x0.f0)] [(rF kS3 xs87 I89), (rF kS3 xs84 I86), (cF kI A66 t63.1), (rF k52 xs56 I58), (rF kS3 xs41 I43), (cF k54 A21 t18.1)]
     have X91 : ∀ E_ W_, (∃ i83 xs84 v85 I86 xs87 v88 I89, G79 (i83, xs84, xs87) = some (r1, y_) ∧ J90 i83 xs84 v85 I86 xs87 v88 I89 E_ W_) → ∀ a, Fits a 222 E_ → K77 a W_ := by
       rintro E_ w92 ⟨i83, xs84, v85, I86, xs87, v88, I89, H, rfl, HS⟩
       rw [hG80] at H
       (try dsimp only at H)
       refine hK77 _ _ ?_
       exact by (
       clear hK77
       refine WC.seq fun _ hK93 => ?_
       refine WC.drawW HS [rowM w0.heap.size 27 1 v88 xs87.length I89, rowM w0.heap.size 27 1 v85 xs84.length I86, rowM w0.heap.size 52 32 v57 xs56.length I58, rowM w0.heap.size 27 1 v42 xs41.length I43, boxM b14 #[vi (wrap64 (4 * (wrap64 (1 + t5.1)))), vi (wrap64 (1 + t8.1)), vi (wrap64 (4 + t11.1)), .slice A21 t18.1.length c22, v42, v57, .slice A66 t63.1.length c67, vi (wrap64 (4 * (wrap64 (1 + t5.1)))), v85, v88, vi 1, vi 1, sn, sn] 33, boxM b2 zz1 33, boxM b0 #[.slice A0_0 x0.f0.length c0_0, vi t74.2.f1, vi t74.2.f2] 83] (fun _ HS => ⟨(HS.mu 0 rfl), (HS.mu 1 rfl), (HS.mu 2 rfl), (HS.mu 3 rfl), (HS.mu 4 rfl), (HS.mu 5 rfl), (HS.mu 6 rfl), trivial⟩) [13] rfl rfl (fun w94 HS => ?_)
       refine df_ 0 underlying33 ?_
       refine df_ 2 underlying33 ?_
       refine df_ 4 underlying33 ?_
       refine dt_ 1 ⟨HS.nowO, HS.nowN, ⟨(HS.mu 0 rfl), (HS.mu 1 rfl), (HS.mu 2 rfl), (HS.mu 3 rfl), (HS.mu 4 rfl), (HS.mu 5 rfl), (HS.mu 6 rfl), trivial⟩⟩ (fun w_ hw_ => Run.load rfl rfl underlying3 rfl (box_cell hw_.2.2.2.2.2.2.1 rfl)) ?_
       refine dt_ 3 ⟨HS.nowO, HS.nowN, ⟨(HS.mu 0 rfl), (HS.mu 1 rfl), (HS.mu 2 rfl), (HS.mu 3 rfl), (HS.mu 4 rfl), (HS.mu 5 rfl), (HS.mu 6 rfl), trivial⟩⟩ (fun w_ hw_ => Run.load rfl rfl underlying3 rfl (box_cell hw_.2.2.2.2.2.2.1 rfl)) ?_
       refine dt_ 5 ⟨HS.nowO, HS.nowN, ⟨(HS.mu 0 rfl), (HS.mu 1 rfl), (HS.mu 2 rfl), (HS.mu 3 rfl), (HS.mu 4 rfl), (HS.mu 5 rfl), (HS.mu 6 rfl), trivial⟩⟩ (fun w_ hw_ => Run.load rfl rfl underlying3 rfl (box_cell hw_.2.2.2.2.2.2.1 rfl)) ?_
       obtain ⟨z95, H⟩ := if_some H
       refine dp_ 6 (fun _ => Run.bin rfl rfl rfl (bin_quo64 z95)) ?_
       refine dp_ 7 (fun _ => Run.bin rfl rfl rfl (bin_quo64 (show (2 : Int) ≠ 0 by decide))) ?_
       obtain ⟨t96, ha97, H⟩ := bind_some H
       refine dc_ 8 (w_none rfl) func43 (sTF.runs k (wrap64 (4 + t11.1)) (wrap64 (Int.tdiv (wrap64 (Int.tdiv (wrap64 (4 * (wrap64 (1 + t5.1)))) (wrap64 (1 + t8.1)))) 2)) t96.1 t96.2 _  ha97) ?_
       clear ha97
       rintro _ w98 ⟨A99, c100, A103, c104, rfl, le101, hf102, le105, hf106, hb⟩
       exact by (
       replace HS := HS.newNs hb (foot_cons hf102 (foot_cons hf106 foot_nil))
       refine ⟨⟨HS.nowO, HS.nowN.2.2, ⟨(HS.mu 0 rfl), (HS.mu 1 rfl), (HS.mu 2 rfl), (HS.mu 3 rfl), (HS.mu 4 rfl), (HS.mu 5 rfl), (HS.mu 6 rfl), trivial⟩⟩, _, rfl, ?_⟩
       clear hb
       refine dm_ 9 ?_
       refine dp_ 10 (fun _ => Run.extract rfl rfl rfl) ?_
       refine dp_ 11 (fun _ => Run.extract rfl rfl rfl) ?_
       refine df_ 12 underlying33 ?_
       refine WD.storeSL 13 HS 4 rfl rfl rfl rfl (oneL rfl) (by kernel_rfl) (ble_ rfl) (cs' := #[vi (wrap64 (4 * (wrap64 (1 + t5.1)))), vi (wrap64 (1 + t8.1)), vi (wrap64 (4 + t11.1)), .slice A21 t18.1.length c22, v42, v57, .slice A66 t63.1.length c67, vi (wrap64 (4 * (wrap64 (1 + t5.1)))), v85, v88, vi 1, vi 1, .slice A99 t96.1.f0.length c100, .slice A103 t96.1.f1.length c104]) (by kernel_rfl) (fun w107 HS => ?_)
       dsimp only [List.set] at HS
       refine dd_ (via_ hK93 (sr_ fun _ hK108 => ?_))
       clear hK93
       obtain ⟨A109, c110, rfl⟩ := row_slice (HS.mu 3 rfl)
       obtain ⟨A111, c112, rfl⟩ := row_slice (HS.mu 2 rfl)
       obtain ⟨A113, c114, rfl⟩ := row_slice (HS.mu 1 rfl)
       obtain ⟨A115, c116, rfl⟩ := row_slice (HS.mu 0 rfl)
       refine v_ (ls_ (HS.mu 4 rfl) underlying33 part_all) ?_
       exact by (
       refine WL.storeW HS 5 rfl rfl rfl rfl rfl rfl (oneL rfl) (by kernel_rfl) rfl (fun w117 HS => ?_)
       dsimp only [List.set] at HS
       refine dn_ hK108 (WC.ret ?_)
       clear hK108
       have le118 := row_le (HS.mu 3 rfl)
       replace HS := HS.freezeN 3 (p := (cF kS3 A109 (xs41))) rfl (fun W_ hm_ h_ => row_C (by rfl) hm_ h_.2.2.2.2.2.2.1)
       dsimp only [List.eraseIdx] at HS
       have le119 := row_le (HS.mu 2 rfl)
       replace HS := HS.freezeN 2 (p := (cF k52 A111 (xs56))) rfl (fun W_ hm_ h_ => row_C (by rfl) hm_ h_.2.2.2.2.2.2.1)
       dsimp only [List.eraseIdx] at HS
       have le120 := row_le (HS.mu 1 rfl)
       replace HS := HS.freezeN 1 (p := (cF kS3 A113 (xs84))) rfl (fun W_ hm_ h_ => row_C (by rfl) hm_ h_.2.2.2.2.2.1)
       dsimp only [List.eraseIdx] at HS
       have le121 := row_le (HS.mu 0 rfl)
       replace HS := HS.freezeN 0 (p := (cF kS3 A115 (xs87))) rfl (fun W_ hm_ h_ => row_C (by rfl) hm_ h_.2.2.2.2.2.1)
       dsimp only [List.eraseIdx] at HS
       exact by (
       replace HS := HS.deriveN (p := (kF k33 (⟨wrap64 (4 * (wrap64 (1 + t5.1))), wrap64 (1 + t8.1), wrap64 (4 + t11.1), t18.1, xs41, xs56, t63.1, (⟨wrap64 (4 * (wrap64 (1 + t5.1))), xs84, xs87, 1, 1⟩ : S29), (⟨t96.1.f0, t96.1.f1⟩ : S31)⟩ : S33) [vi (wrap64 (4 * (wrap64 (1 + t5.1)))), vi (wrap64 (1 + t8.1)), vi (wrap64 (4 + t11.1)), .slice A21 t18.1.length c22, .slice A109 xs41.length c110, .slice A111 xs56.length c112, .slice A66 t63.1.length c67, vi (wrap64 (4 * (wrap64 (1 + t5.1)))), .slice A113 xs84.length c114, .slice A115 xs87.length c116, vi 1, vi 1, .slice A99 t96.1.f0.length c100, .slice A103 t96.1.f1.length c104])) (fun W_ hN_ => (k33_mk _ (⟨wrap64 (4 * (wrap64 (1 + t5.1))), wrap64 (1 + t8.1), wrap64 (4 + t11.1), t18.1, xs41, xs56, t63.1, (⟨wrap64 (4 * (wrap64 (1 + t5.1))), xs84, xs87, 1, 1⟩ : S29), (⟨t96.1.f0, t96.1.f1⟩ : S31)⟩ : S33) (le23) hN_.2.2.2.2.2.2.2.2.2.2.2.1 (le118) hN_.2.2.2.1 (le119) hN_.2.2.1 (le68) hN_.2.2.2.2.2.2.2.2.1 (le120) hN_.2.1 (le121) hN_.1 (le101) hN_.2.2.2.2.1 (le105) hN_.2.2.2.2.2.1))
       obtain ⟨rfl, rfl⟩ := Prod.mk.inj (os H)
       have HSf := (St.forget (St.forget HS 1 rfl) 0 rfl)
       exact fin1 Try.f13 rfl ⟨_, rfl, resv_box (HS.mu 1 rfl) underlying33 rfl (by kernel_rfl)⟩ hR_ ⟨_, rfl, (foot_freshM (HSf.footN 0 rfl)), (HSf.mu 0 rfl), (rest_of (HSf.getO 0 rfl) (HSf.mu 1 rfl)), HSf.b⟩ ))))
     clear hK77
     refine WC.loop (fun k_ E_ W_ => ∃ i83 xs84 v85 I86 xs87 v88 I89, (∃ o_, sR.l0 t5 t27 t31 t74 k_ i83 xs84 xs87 = some o_ ∧ G79 o_ = some (r1, y_)) ∧ J90 i83 xs84 v85 I86 xs87 v88 I89 E_ W_) k ⟨0, ([] : List (List Int)), (sn), ([]), ([] : List (List Int)), (sn), ([]), ⟨_, H, Ho82⟩, rfl, HS⟩ (sb rfl) ?_
     rintro k_ E_ w123 ⟨i83, xs84, v85, I86, xs87, v88, I89, ⟨oc81, H, Ho82⟩, rfl, HS⟩
     rcases k_ with _ | k124
     · exact no_ H
     replace H : sR.b0 t5 t27 t31 t74 (sR.l0 t5 t27 t31 t74 k124) k124 i83 xs84 xs87 = some oc81 := H
     unfold sR.b0 at H
     refine WC.seq fun _ hK125 => ?_
     refine sr_ fun _ hK126 => ?_
     refine mv_ ?_
     refine mv_ ?_
     refine b_ bin_lss ?_
     exact by (
     refine dn_ hK126 ?_
     clear hK126
     rcases eti_ H with ⟨c127, H⟩ | ⟨c127, H⟩
     · refine wn_ (dF c127) (WC.exit ?_)
       obtain rfl := os H
       exact wv_ iq X91 ⟨i83, xs84, v85, I86, xs87, v88, I89, Ho82, rfl, HS⟩
     refine wy_ (dT c127) (WC.skip (via_ hK125 (WC.seq fun _ hK128 => ?_)))
     clear hK125
     refine WC.block (sr_ fun _ hK129 => ?_)
     refine WL.lit0 HS rfl rfl (by decide) rfl underlying27 (sz := 1) (by kernel_rfl) (fun v130 w131 HS => ?_)
     replace HS := HS.deriveN (p := (rF kI ([] : List Int) [])) (fun _ _ => Reps.none _ _)
     refine ad_ hK129 ?_
     clear hK129
     refine sr_ fun _ hK132 => ?_
     refine WL.lit0 HS rfl rfl (by decide) rfl underlying27 (sz := 1) (by kernel_rfl) (fun v133 w134 HS => ?_)
     replace HS := HS.deriveN (p := (rF kI ([] : List Int) [])) (fun _ _ => Reps.none _ _)
     exact by (
     refine ad_ hK132 ?_
     clear hK132
     refine WC.seq fun K135 hK135 => ?_
     refine sr_ fun _ hK136 => ?_
     refine ad_ hK136 ?_
     clear hK136
     refine WC.block ?_
     obtain ⟨G137, hG138, oc139, H, Ho140⟩ := open_G H
     let J148 := fun (xs141 : List Int) v142 I143 (xs144 : List Int) v145 I146 (i147 : Int) (E_ : Env) (W_ : World) => E_ = [(2, .pointer (some ⟨b2, 0, none⟩)), (3, .pointer (some ⟨b14, 0, none⟩)), (4, vi t27), (5, vi t31.1), (12, vi (wrap64 (1 + t74.1))), (13, vi i83), (14, v142), (15, v145), (16, vi i147)] ∧ St (fun _ => True) w0 W_ [rowM w0.heap.size 3 1 v145 xs144.length I146, rowM w0.heap.size 3 1 v142 xs141.length I143, rowM w0.heap.size 27 1 v88 xs87.length I89, rowM w0.heap.size 27 1 v85 xs84.length I86, rowM w0.heap.size 52 32 v57 xs56.length I58, rowM w0.heap.size 27 1 v42 xs41.length I43, boxM b14 #[vi (wrap64 (4 * (wrap64 (1 + t5.1)))), vi (wrap64 (1 + t8.1)), vi (wrap64 (4 + t11.1)), .slice A21 t18.1.length c22, v42, v57, .slice A66 t63.1.length c67, vi (wrap64 (4 * (wrap64 (1 + t5.1)))), v85, v88, vi 1, vi 1, sn, sn] 33, boxM b2 zz1 33, boxM b0 #[.slice A0_0 x0.f0.length c0_0, vi t74.2.f1, vi t74.2.f2] 83, keepM w bs_] [(frameF w b0 bs_), (cF kU A0_0 x0.f0)] [(rF kI xs144 I146), (rF kI xs141 I143), (rF kS3 xs87 I89), (rF kS3 xs84 I86), (cF kI A66 t63.1), (rF k52 xs56 I58), (rF kS3 xs41 I43), (cF k54 A21 t18.1)]
     have X149 : ∀ E_ W_, (∃ xs141 v142 I143 xs144 v145 I146 i147, G137 (xs141, xs144, i147) = some oc81 ∧ J148 xs141 v142 I143 xs144 v145 I146 i147 E_ W_) → ∀ a, Fits a 222 E_ → K135 a W_ := by
       rintro E_ w150 ⟨xs141, v142, I143, xs144, v145, I146, i147, H, rfl, HS⟩
       rw [hG138] at H
       (try dsimp only at H)
       refine hK135 _ _ ?_
       clear hK135
       refine sr_ fun _ hK151 => ?_
       exact by (
       refine v_ (fa_ underlying33) ?_
       refine v_ (fa_ underlying29) ?_
       obtain ⟨A152, c153, rfl⟩ := row_slice (HS.mu 3 rfl)
       refine v_ (lb_ (HS.mu 6 rfl) underlying25 rfl) ?_
       refine mv_ ?_
       obtain ⟨A154, c155, rfl⟩ := row_slice (HS.mu 1 rfl)
       have le156 := row_le (HS.mu 1 rfl)
       replace HS := HS.freezeN 1 (p := (cF kI A154 (xs141))) rfl (fun W_ hm_ h_ => row_C (by rfl) hm_ h_.2.1)
       dsimp only [List.eraseIdx] at HS
       refine WL.val rfl rfl (by decide) (Run.lit1 (z := (sn)) (vs := [.slice A154 xs141.length c155]) rfl rfl rfl underlying25 (by kernel_rfl) (ble_ rfl) (ble_ rfl)) ?_
       have HS1 := HS.below (below_alloc (Below.refl _ _) (.cells #[.slice A154 xs141.length c155] 27))
       obtain ⟨q157, H⟩ := if_some H
       refine WL.append HS1 2 rfl rfl rfl (by decide) rfl (sn) 24 underlying25 (by kernel_rfl) rfl (by decide) (by decide) rfl rfl [.slice A154 xs141.length c155] rfl (lit_news _ _ _) (oneL rfl) (by omega) ((xs84 ++ [xs141]).length) (by simp) (fun v158 w159 I160 hI161 HS => ?_)
       dsimp only [List.set] at HS
       replace HS := HS.deriveN (p := (rF kS3 (xs84 ++ [xs141]) I160)) (fun W_ hN_ => reps_snoc hI161 hN_.2.2.2.2.1 (K_slice le156 hN_.1))
       clear HS1
       exact by (
       refine v_ (fa_ underlying33) ?_
       refine v_ (fa_ underlying29) ?_
       obtain ⟨A163, c164, rfl⟩ := row_slice (HS.mu 2 rfl)
       refine WL.store HS 5 rfl rfl rfl rfl rfl rfl rfl (by kernel_rfl) (ble_ rfl) (cs' := #[vi (wrap64 (4 * (wrap64 (1 + t5.1)))), vi (wrap64 (1 + t8.1)), vi (wrap64 (4 + t11.1)), .slice A21 t18.1.length c22, v42, v57, .slice A66 t63.1.length c67, vi (wrap64 (4 * (wrap64 (1 + t5.1)))), (.slice A163 ((xs84 ++ [xs141]).length) c164), v88, vi 1, vi 1, sn, sn]) (by kernel_rfl) (fun w162 HS => ?_)
       dsimp only [List.set] at HS
       refine dn_ hK151 (rg_ (v_ (fa_ underlying33) ?_))
       clear hK151
       refine v_ (fa_ underlying29) ?_
       obtain ⟨A165, c166, rfl⟩ := row_slice (HS.mu 1 rfl)
       refine v_ (lb_ (HS.mu 5 rfl) underlying25 rfl) ?_
       refine mv_ ?_
       obtain ⟨A167, c168, rfl⟩ := row_slice (HS.mu 0 rfl)
       have le169 := row_le (HS.mu 0 rfl)
       replace HS := HS.freezeN 0 (p := (cF kI A167 (xs144))) rfl (fun W_ hm_ h_ => row_C (by rfl) hm_ h_.2.2.1)
       dsimp only [List.eraseIdx] at HS
       refine WL.val rfl rfl (by decide) (Run.lit1 (z := (sn)) (vs := [.slice A167 xs144.length c168]) rfl rfl rfl underlying25 (by kernel_rfl) (ble_ rfl) (ble_ rfl)) ?_
       exact by (
       have HS1 := HS.below (below_alloc (Below.refl _ _) (.cells #[.slice A167 xs144.length c168] 27))
       obtain ⟨q170, H⟩ := if_some H
       refine WL.append HS1 0 rfl rfl rfl (by decide) rfl (sn) 24 underlying25 (by kernel_rfl) rfl (by decide) (by decide) rfl rfl [.slice A167 xs144.length c168] rfl (lit_news _ _ _) (oneL rfl) (by omega) ((xs87 ++ [xs144]).length) (by simp) (fun v171 w172 I173 hI174 HS => ?_)
       dsimp only [List.set] at HS
       replace HS := HS.deriveN (p := (rF kS3 (xs87 ++ [xs144]) I173)) (fun W_ hN_ => reps_snoc hI174 hN_.2.2.2.2.2.1 (K_slice le169 hN_.1))
       clear HS1
       refine v_ (fa_ underlying33) ?_
       refine v_ (fa_ underlying29) ?_
       obtain ⟨A176, c177, rfl⟩ := row_slice (HS.mu 0 rfl)
       refine WL.store HS 4 rfl rfl rfl rfl rfl rfl rfl (by kernel_rfl) (ble_ rfl) (cs' := #[vi (wrap64 (4 * (wrap64 (1 + t5.1)))), vi (wrap64 (1 + t8.1)), vi (wrap64 (4 + t11.1)), .slice A21 t18.1.length c22, v42, v57, .slice A66 t63.1.length c67, vi (wrap64 (4 * (wrap64 (1 + t5.1)))), (.slice A163 ((xs84 ++ [xs141]).length) c164), (.slice A176 ((xs87 ++ [xs144]).length) c177), vi 1, vi 1, sn, sn]) (by kernel_rfl) (fun w175 HS => ?_)
       dsimp only [List.set] at HS
       refine dn_ hK128 (rg_ (mv_ ?_))
       clear hK128
       refine b_ bin_add64 ?_
       refine as_ ?_
       refine WL.done ?_
       exact wr_ k124 iq ⟨(wrap64 (i83 + 1)), (xs84 ++ [xs141]), (.slice A163 ((xs84 ++ [xs141]).length) c164), I160, (xs87 ++ [xs144]), (.slice A176 ((xs87 ++ [xs144]).length) c177), I173, ⟨_, H, Ho82⟩, rfl, (St.pk HS [0, 1] [0, 2, 8, 9, 10, 11] rfl rfl)⟩ )))
     exact by (
     clear hK135
     refine WC.loop (fun k_ E_ W_ => ∃ xs141 v142 I143 xs144 v145 I146 i147, (∃ o_, sR.l1 t5 t31 t74 i83 k_ xs141 xs144 i147 = some o_ ∧ G137 o_ = some oc81) ∧ J148 xs141 v142 I143 xs144 v145 I146 i147 E_ W_) k124 ⟨([] : List Int), v130, ([]), ([] : List Int), v133, ([]), 0, ⟨_, H, Ho140⟩, rfl, HS⟩ (sb rfl) ?_
     rintro k_ E_ w179 ⟨xs141, v142, I143, xs144, v145, I146, i147, ⟨oc139, H, Ho140⟩, rfl, HS⟩
     rcases k_ with _ | k180
     · exact no_ H
     replace H : sR.b1 t5 t31 t74 i83 (sR.l1 t5 t31 t74 i83 k180) k180 xs141 xs144 i147 = some oc139 := H
     unfold sR.b1 at H
     refine WC.seq fun _ hK181 => ?_
     refine sr_ fun _ hK182 => ?_
     refine mv_ ?_
     refine v_ (fa_ underlying33) ?_
     refine v_ (lb_ (HS.mu 6 rfl) underlying3 rfl) ?_
     refine b_ bin_lss ?_
     refine dn_ hK182 ?_
     clear hK182
     rcases eti_ H with ⟨c183, H⟩ | ⟨c183, H⟩
     · refine wn_ (dF c183) (WC.exit ?_)
       obtain rfl := os H
       exact wv_ iq X149 ⟨xs141, v142, I143, xs144, v145, I146, i147, Ho140, rfl, HS⟩
     exact by (
     refine wy_ (dT c183) (WC.skip (via_ hK181 (WC.seq fun K184 hK184 => ?_)))
     clear hK181
     obtain ⟨G185, hG186, oc187, H, Ho188⟩ := open_G H
     have X195 : ∀ E_ W_, (∃ (xs189 : List Int) (v190 : Value) (I191 : List Value) (xs192 : List Int) (v193 : Value) (I194 : List Value), E_ = [(2, .pointer (some ⟨b2, 0, none⟩)), (3, .pointer (some ⟨b14, 0, none⟩)), (4, vi t27), (5, vi t31.1), (12, vi (wrap64 (1 + t74.1))), (13, vi i83), (14, v190), (15, v193), (16, vi i147)] ∧ G185 (xs189, xs192) = some oc139 ∧ St (fun _ => True) w0 W_ [rowM w0.heap.size 3 1 v193 xs192.length I194, rowM w0.heap.size 3 1 v190 xs189.length I191, rowM w0.heap.size 27 1 v88 xs87.length I89, rowM w0.heap.size 27 1 v85 xs84.length I86, rowM w0.heap.size 52 32 v57 xs56.length I58, rowM w0.heap.size 27 1 v42 xs41.length I43, boxM b14 #[vi (wrap64 (4 * (wrap64 (1 + t5.1)))), vi (wrap64 (1 + t8.1)), vi (wrap64 (4 + t11.1)), .slice A21 t18.1.length c22, v42, v57, .slice A66 t63.1.length c67, vi (wrap64 (4 * (wrap64 (1 + t5.1)))), v85, v88, vi 1, vi 1, sn, sn] 33, boxM b2 zz1 33, boxM b0 #[.slice A0_0 x0.f0.length c0_0, vi t74.2.f1, vi t74.2.f2] 83, keepM w bs_] [(frameF w b0 bs_), (cF kU A0_0 x0.f0)] [(rF kI xs192 I194), (rF kI xs189 I191), (rF kS3 xs87 I89), (rF kS3 xs84 I86), (cF kI A66 t63.1), (rF k52 xs56 I58), (rF kS3 xs41 I43), (cF k54 A21 t18.1)]) → ∀ a, Fits a 222 E_ → K184 a W_ := by
       rintro E_ w196 ⟨xs189, v190, I191, xs192, v193, I194, rfl, H, HS⟩
       rw [hG186] at H
       (try dsimp only at H)
       refine hK184 _ _ ?_
       clear hK184
       refine rg_ (mv_ ?_)
       refine b_ bin_add64 ?_
       refine as_ ?_
       refine WL.done ?_
       exact wr_ k180 iq ⟨xs189, v190, I191, xs192, v193, I194, (wrap64 (i147 + 1)), ⟨_, H, Ho140⟩, rfl, HS⟩
     clear hK184
     refine WC.block (sr_ fun _ hK198 => ?_)
     exact by (
     refine mv_ ?_
     refine mv_ ?_
     refine mv_ ?_
     refine mv_ ?_
     refine b_ bin_mul64 ?_
     refine b_ bin_add64 ?_
     refine mv_ ?_
     refine b_ bin_mul64 ?_
     refine b_ bin_add64 ?_
     refine mv_ ?_
     refine mv_ ?_
     refine b_ bin_mul64 ?_
     refine b_ bin_add64 ?_
     refine v_ (Run.bin rfl rfl rfl (bin_rem (show (16 : Int) ≠ 0 by decide))) ?_
     refine b_ bin_sub64 ?_
     refine WL.val rfl rfl (by decide) (Run.lit1 (z := (vi 0)) (vs := [vi (wrap64 ((Int.tmod (wrap64 ((wrap64 ((wrap64 (t31.1 + (wrap64 (i83 * (wrap64 (1 + t74.1)))))) + (wrap64 (i147 * 7)))) + (wrap64 (i83 * i147)))) 16) - 8))]) rfl rfl rfl underlying27 (by kernel_rfl) (ble_ rfl) (ble_ rfl)) ?_
     exact by (
     have HS1 := HS.below (below_alloc (Below.refl _ _) (.cells #[vi (wrap64 ((Int.tmod (wrap64 ((wrap64 ((wrap64 (t31.1 + (wrap64 (i83 * (wrap64 (1 + t74.1)))))) + (wrap64 (i147 * 7)))) + (wrap64 (i83 * i147)))) 16) - 8))] 3))
     obtain ⟨q199, H⟩ := if_some H
     refine WL.append HS1 1 rfl rfl rfl (by decide) rfl (vi 0) 8 underlying27 (by kernel_rfl) rfl (by decide) (by decide) rfl rfl [vi (wrap64 ((Int.tmod (wrap64 ((wrap64 ((wrap64 (t31.1 + (wrap64 (i83 * (wrap64 (1 + t74.1)))))) + (wrap64 (i147 * 7)))) + (wrap64 (i83 * i147)))) 16) - 8))] rfl (lit_news _ _ _) (oneL rfl) (by omega) ((xs141 ++ [wrap64 ((Int.tmod (wrap64 ((wrap64 ((wrap64 (t31.1 + (wrap64 (i83 * (wrap64 (1 + t74.1)))))) + (wrap64 (i147 * 7)))) + (wrap64 (i83 * i147)))) 16) - 8)]).length) (by simp) (fun v200 w201 I202 hI203 HS => ?_)
     dsimp only [List.set] at HS
     replace HS := HS.deriveN (p := (rF kI (xs141 ++ [wrap64 ((Int.tmod (wrap64 ((wrap64 ((wrap64 (t31.1 + (wrap64 (i83 * (wrap64 (1 + t74.1)))))) + (wrap64 (i147 * 7)))) + (wrap64 (i83 * i147)))) 16) - 8)]) I202)) (fun W_ hN_ => reps_snoc hI203 hN_.2.1 (K_int _))
     clear HS1
     refine ad_ hK198 ?_
     clear hK198
     refine sr_ fun _ hK204 => ?_
     refine mv_ ?_
     refine v_ (Run.bin rfl rfl rfl (bin_rem (show (4 : Int) ≠ 0 by decide))) ?_
     refine b_ bin_eql ?_
     refine dn_ hK204 ?_
     clear hK204
     rcases eti_ H with ⟨c205, H⟩ | ⟨c205, H⟩
     · refine wn_ (eF c205) (WC.skip ?_)
       obtain rfl := os H
       exact wv_ iq X195 ⟨(xs141 ++ [wrap64 ((Int.tmod (wrap64 ((wrap64 ((wrap64 (t31.1 + (wrap64 (i83 * (wrap64 (1 + t74.1)))))) + (wrap64 (i147 * 7)))) + (wrap64 (i83 * i147)))) 16) - 8)]), v200, I202, xs144, v145, I146, rfl, Ho188, (St.pk HS [0, 1] [1, 0, 3, 4, 5, 6, 7, 8] rfl rfl)⟩
     exact by (
     refine wy_ (eT c205) (rg_ (mv_ ?_))
     refine mv_ ?_
     refine b_ bin_mul64 ?_
     refine mv_ ?_
     refine b_ bin_add64 ?_
     refine mv_ ?_
     refine b_ bin_add64 ?_
     refine v_ (Run.bin rfl rfl rfl (bin_rem (show (30 : Int) ≠ 0 by decide))) ?_
     refine b_ bin_add64 ?_
     refine WL.val rfl rfl (by decide) (Run.lit1 (z := (vi 0)) (vs := [vi (wrap64 (1 + (Int.tmod (wrap64 ((wrap64 ((wrap64 (i83 * 3)) + i147)) + t31.1)) 30)))]) rfl rfl rfl underlying27 (by kernel_rfl) (ble_ rfl) (ble_ rfl)) ?_
     have HS1 := HS.below (below_alloc (Below.refl _ _) (.cells #[vi (wrap64 (1 + (Int.tmod (wrap64 ((wrap64 ((wrap64 (i83 * 3)) + i147)) + t31.1)) 30)))] 3))
     obtain ⟨q206, H⟩ := if_some H
     refine WL.append HS1 0 rfl rfl rfl (by decide) rfl (vi 0) 8 underlying27 (by kernel_rfl) rfl (by decide) (by decide) rfl rfl [vi (wrap64 (1 + (Int.tmod (wrap64 ((wrap64 ((wrap64 (i83 * 3)) + i147)) + t31.1)) 30)))] rfl (lit_news _ _ _) (oneL rfl) (by omega) ((xs144 ++ [wrap64 (1 + (Int.tmod (wrap64 ((wrap64 ((wrap64 (i83 * 3)) + i147)) + t31.1)) 30))]).length) (by simp) (fun v207 w208 I209 hI210 HS => ?_)
     dsimp only [List.set] at HS
     replace HS := HS.deriveN (p := (rF kI (xs144 ++ [wrap64 (1 + (Int.tmod (wrap64 ((wrap64 ((wrap64 (i83 * 3)) + i147)) + t31.1)) 30))]) I209)) (fun W_ hN_ => reps_snoc hI210 hN_.2.1 (K_int _))
     clear HS1
     exact by (
     refine as_ ?_
     refine WL.done ?_
     obtain rfl := os H
     exact wv_ iq X195 ⟨(xs141 ++ [wrap64 ((Int.tmod (wrap64 ((wrap64 ((wrap64 (t31.1 + (wrap64 (i83 * (wrap64 (1 + t74.1)))))) + (wrap64 (i147 * 7)))) + (wrap64 (i83 * i147)))) 16) - 8)]), v200, I202, (xs144 ++ [wrap64 (1 + (Int.tmod (wrap64 ((wrap64 ((wrap64 (i83 * 3)) + i147)) + t31.1)) 30))]), v207, I209, rfl, Ho188, (St.pk HS [0, 1] [0, 1, 4, 5, 6, 7, 8, 9] rfl rfl)⟩ )))))))))))
   clear hK47
   refine WC.loop (fun k_ E_ W_ => ∃ i53 i54 i55 xs56 v57 I58, (∃ o_, sR.l2 x0 t5 k_ i53 i54 i55 xs56 = some o_ ∧ G49 o_ = some (r1, y_)) ∧ J59 i53 i54 i55 xs56 v57 I58 E_ W_) k ⟨0, t31.2.f1, t31.2.f2, ([] : List S52), (sn), ([]), ⟨_, H, Ho52⟩, rfl, HS⟩ (sb rfl) ?_
   rintro k_ E_ w212 ⟨i53, i54, i55, xs56, v57, I58, ⟨oc51, H, Ho52⟩, rfl, HS⟩
   rcases k_ with _ | k213
   · exact no_ H
   replace H : sR.b2 x0 t5 (sR.l2 x0 t5 k213) k213 i53 i54 i55 xs56 = some oc51 := H
   unfold sR.b2 at H
   refine WC.seq fun _ hK214 => ?_
   refine sr_ fun _ hK215 => ?_
   refine mv_ ?_
   refine mv_ ?_
   obtain ⟨t216, ha217, H⟩ := bind_some H
   exact by (
   refine c_ func14 (sB.runs k213 b0 (⟨x0.f0, i54, i55⟩ : S83) A0_0 c0_0 2 _ t216.1 t216.2 _ _ HS.b (HS.nodupM 4 rfl) (HS.boundM 4 rfl) (HS.footOM 4 rfl 1 rfl) hc0_0 (HS.mu 4 rfl) ha217) ?_
   clear ha217
   rintro _ w218 ⟨rfl, hbx_, hrest_, hB1_⟩
   replace HS := HS.calledM 4 rfl hB1_ hrest_ hbx_
   dsimp only [List.set] at HS
   clear hB1_ hrest_ hbx_
   refine ⟨_, rfl, ?_⟩
   refine b_ bin_add64 ?_
   refine b_ bin_lss ?_
   refine dn_ hK215 ?_
   clear hK215
   rcases eti_ H with ⟨c219, H⟩ | ⟨c219, H⟩
   · refine wn_ (dF c219) (WC.exit ?_)
     obtain rfl := os H
     exact wv_ iq X60 ⟨i53, t216.2.f1, t216.2.f2, xs56, v57, I58, Ho52, rfl, HS⟩
   refine wy_ (dT c219) (WC.skip (via_ hK214 (WC.seq fun _ hK220 => ?_)))
   exact by (
   clear hK214
   refine WC.block (sr_ fun _ hK221 => ?_)
   refine mv_ ?_
   obtain ⟨t222, ha223, H⟩ := bind_some H
   refine c_ func14 (sB.runs k213 b0 (⟨x0.f0, t216.2.f1, t216.2.f2⟩ : S83) A0_0 c0_0 2 _ t222.1 t222.2 _ _ HS.b (HS.nodupM 4 rfl) (HS.boundM 4 rfl) (HS.footOM 4 rfl 1 rfl) hc0_0 (HS.mu 4 rfl) ha223) ?_
   clear ha223
   rintro _ w224 ⟨rfl, hbx_, hrest_, hB1_⟩
   replace HS := HS.calledM 4 rfl hB1_ hrest_ hbx_
   dsimp only [List.set] at HS
   clear hB1_ hrest_ hbx_
   refine ⟨_, rfl, ?_⟩
   refine b_ bin_add64 ?_
   refine b_ bin_mul64 ?_
   refine ad_ hK221 ?_
   clear hK221
   refine WC.seq fun K225 hK225 => ?_
   exact by (
   refine WC.drawW HS [rowM w0.heap.size 52 32 v57 xs56.length I58, rowM w0.heap.size 27 1 v42 xs41.length I43, boxM b14 #[vi (wrap64 (4 * (wrap64 (1 + t5.1)))), vi (wrap64 (1 + t8.1)), vi (wrap64 (4 + t11.1)), .slice A21 t18.1.length c22, v42, v57, sn, vi 0, sn, sn, vi 0, vi 0, sn, sn] 33, boxM b2 zz1 33] (fun _ HS => ⟨(HS.mu 0 rfl), (HS.mu 1 rfl), (HS.mu 2 rfl), (HS.mu 3 rfl), trivial⟩) [10] rfl rfl (fun w226 HS => ?_)
   refine dm_ 0 ?_
   refine df_ 1 underlying33 ?_
   refine dm_ 4 ?_
   refine df_ 5 underlying33 ?_
   refine dt_ 2 ⟨HS.nowO, HS.nowN, ⟨(HS.mu 0 rfl), (HS.mu 1 rfl), (HS.mu 2 rfl), (HS.mu 3 rfl), trivial⟩⟩ (fun w_ hw_ => Run.load rfl rfl underlying3 rfl (box_cell hw_.2.2.2.2.1 rfl)) ?_
   refine dt_ 6 ⟨HS.nowO, HS.nowN, ⟨(HS.mu 0 rfl), (HS.mu 1 rfl), (HS.mu 2 rfl), (HS.mu 3 rfl), trivial⟩⟩ (fun w_ hw_ => Run.load rfl rfl underlying3 rfl (box_cell hw_.2.2.2.2.1 rfl)) ?_
   have X227 : ∀ E_ W_, (∃ (b242 : Nat) (A231 : Option Addr) (t228 : (List Int) × S83) (c232 : Nat) (A238 : Option Addr) (t235 : (List Int) × S83) (c239 : Nat), E_ = [(0, .pointer (some ⟨b0, 0, none⟩)), (2, .pointer (some ⟨b2, 0, none⟩)), (3, .pointer (some ⟨b14, 0, none⟩)), (4, vi t27), (5, vi t31.1), (9, vi i53), (10, vi (wrap64 (4 * (wrap64 (1 + t222.1))))), (11, .pointer (some ⟨b242, 0, none⟩)), (70, vi i53), (71, .pointer (some ⟨b0, 0, none⟩)), (72, vi t216.1), (73, vi (wrap64 (1 + t216.1))), (74, .bool (decide (i53 < (wrap64 (1 + t216.1))))), (77, .pointer (some ⟨b0, 0, none⟩)), (78, vi t222.1), (79, vi (wrap64 (1 + t222.1))), (80, vi (wrap64 (4 * (wrap64 (1 + t222.1))))), (81, .pointer (some ⟨b0, 0, none⟩)), (82, .pointer (some ⟨b14, 0, none⟩)), (83, vi (wrap64 (4 * (wrap64 (1 + t5.1))))), (84, .slice A231 t228.1.length c232), (85, .pointer (some ⟨b0, 0, none⟩)), (86, .pointer (some ⟨b14, 0, none⟩)), (87, vi (wrap64 (4 * (wrap64 (1 + t5.1))))), (88, .slice A238 t235.1.length c239), (89, .agg #[.slice A231 t228.1.length c232, vi 0, sn, sn, vi 0, vi 0, vi 0, sn, sn, vi 0, vi 0, vi 0, sn, sn, vi 0, vi 0, vi 0, sn, sn, vi 0, vi 0, .slice A238 t235.1.length c239, vi 0, sn, sn, vi 0, vi 0, vi 0, sn, sn, vi 0, vi 0])] ∧ ((sM.g k213 (⟨x0.f0, t235.2.f1, t235.2.f2⟩ : S83) (wrap64 (4 * (wrap64 (1 + t5.1)))) (wrap64 (4 * (wrap64 (1 + t5.1))))).bind fun t274 => ((sM.g k213 (⟨x0.f0, t274.2.f1, t274.2.f2⟩ : S83) (wrap64 (4 * (wrap64 (1 + t5.1)))) (wrap64 (4 * (wrap64 (1 + t5.1))))).bind fun t287 => ((sM.g k213 (⟨x0.f0, t287.2.f1, t287.2.f2⟩ : S83) (wrap64 (4 * (wrap64 (1 + t5.1)))) (wrap64 (4 * (wrap64 (1 + t5.1))))).bind fun t300 => ((sM.g k213 (⟨x0.f0, t300.2.f1, t300.2.f2⟩ : S83) (wrap64 (4 * (wrap64 (1 + t5.1)))) (wrap64 (4 * (wrap64 (1 + t5.1))))).bind fun t313 => ((sM.g k213 (⟨x0.f0, t313.2.f1, t313.2.f2⟩ : S83) (wrap64 (4 * (wrap64 (1 + t5.1)))) (wrap64 (4 * (wrap64 (1 + t222.1))))).bind fun t326 => ((sM.g k213 (⟨x0.f0, t326.2.f1, t326.2.f2⟩ : S83) (wrap64 (4 * (wrap64 (1 + t222.1)))) (wrap64 (4 * (wrap64 (1 + t5.1))))).bind fun t339 => (if (xs56.length) < 4294967296 then ((sR.l2 x0 t5 k213) (wrap64 (i53 + 1)) t339.2.f1 t339.2.f2 (xs56 ++ [(⟨t228.1, (⟨t274.1.f0, t274.1.f1, t274.1.f2, t274.1.f3, t274.1.f4⟩ : S29), (⟨t287.1.f0, t287.1.f1, t287.1.f2, t287.1.f3, t287.1.f4⟩ : S29), (⟨t300.1.f0, t300.1.f1, t300.1.f2, t300.1.f3, t300.1.f4⟩ : S29), (⟨t313.1.f0, t313.1.f1, t313.1.f2, t313.1.f3, t313.1.f4⟩ : S29), t235.1, (⟨t326.1.f0, t326.1.f1, t326.1.f2, t326.1.f3, t326.1.f4⟩ : S29), (⟨t339.1.f0, t339.1.f1, t339.1.f2, t339.1.f3, t339.1.f4⟩ : S29)⟩ : S52)])) else none))))))) = some oc51 ∧ t228.1.length ≤ c232 ∧ t235.1.length ≤ c239 ∧ St (fun _ => True) w0 W_ [boxM b242 #[.slice A231 t228.1.length c232, vi 0, sn, sn, vi 0, vi 0, vi 0, sn, sn, vi 0, vi 0, vi 0, sn, sn, vi 0, vi 0, vi 0, sn, sn, vi 0, vi 0, .slice A238 t235.1.length c239, vi 0, sn, sn, vi 0, vi 0, vi 0, sn, sn, vi 0, vi 0] 52, rowM w0.heap.size 52 32 v57 xs56.length I58, rowM w0.heap.size 27 1 v42 xs41.length I43, boxM b14 #[vi (wrap64 (4 * (wrap64 (1 + t5.1)))), vi (wrap64 (1 + t8.1)), vi (wrap64 (4 + t11.1)), .slice A21 t18.1.length c22, v42, v57, sn, vi 0, sn, sn, vi 0, vi 0, sn, sn] 33, boxM b2 zz1 33, boxM b0 #[.slice A0_0 x0.f0.length c0_0, vi t235.2.f1, vi t235.2.f2] 83, keepM w bs_] [(frameF w b0 bs_), (cF kU A0_0 x0.f0)] [(cF kI A238 t235.1), (cF kI A231 t228.1), (rF k52 xs56 I58), (rF kS3 xs41 I43), (cF k54 A21 t18.1)]) → ∀ a, Fits a 222 E_ → K225 a W_ := by
     rintro E_ w272 ⟨b242, A231, t228, c232, A238, t235, c239, rfl, H, le233, le240, HS⟩
     refine hK225 _ _ ?_
     clear hK225
     refine sr_ fun _ hK273 => ?_
     refine mv_ ?_
     refine v_ (fa_ underlying33) ?_
     refine v_ (lb_ (HS.mu 3 rfl) underlying3 rfl) ?_
     refine v_ (fa_ underlying33) ?_
     exact by (
     refine v_ (lb_ (HS.mu 3 rfl) underlying3 rfl) ?_
     obtain ⟨t274, ha275, H⟩ := bind_some H
     refine c_ func42 (sM.runs k213 b0 (⟨x0.f0, t235.2.f1, t235.2.f2⟩ : S83) A0_0 c0_0 (wrap64 (4 * (wrap64 (1 + t5.1)))) (wrap64 (4 * (wrap64 (1 + t5.1)))) _ t274.1 t274.2 _ _ HS.b (HS.nodupM 5 rfl) (HS.boundM 5 rfl) (HS.footOM 5 rfl 1 rfl) hc0_0 (HS.mu 5 rfl) ha275) ?_
     clear ha275
     rintro _ w276 ⟨A277, c278, A281, c282, rfl, le279, hf280, le283, hf284, hbx_, hrest_, hB1_⟩
     replace HS := HS.newM 5 rfl hB1_ hrest_ hbx_ (foot_cons hf280 (foot_cons hf284 foot_nil))
     dsimp only [List.set] at HS
     clear hB1_ hrest_ hbx_
     refine ⟨_, rfl, ?_⟩
     refine v_ (fa_ underlying52) ?_
     refine WL.storeS HS 0 rfl rfl rfl rfl rfl rfl (oneL rfl) (by kernel_rfl) (ble_ rfl) (cs' := #[.slice A231 t228.1.length c232, vi t274.1.f0, .slice A277 t274.1.f1.length c278, .slice A281 t274.1.f2.length c282, vi t274.1.f3, vi t274.1.f4, vi 0, sn, sn, vi 0, vi 0, vi 0, sn, sn, vi 0, vi 0, vi 0, sn, sn, vi 0, vi 0, .slice A238 t235.1.length c239, vi 0, sn, sn, vi 0, vi 0, vi 0, sn, sn, vi 0, vi 0]) (by kernel_rfl) (fun w285 HS => ?_)
     dsimp only [List.set] at HS
     refine dn_ hK273 (sr_ fun _ hK286 => ?_)
     clear hK273
     refine mv_ ?_
     refine v_ (fa_ underlying33) ?_
     exact by (
     refine v_ (lb_ (HS.mu 3 rfl) underlying3 rfl) ?_
     refine v_ (fa_ underlying33) ?_
     refine v_ (lb_ (HS.mu 3 rfl) underlying3 rfl) ?_
     obtain ⟨t287, ha288, H⟩ := bind_some H
     refine c_ func42 (sM.runs k213 b0 (⟨x0.f0, t274.2.f1, t274.2.f2⟩ : S83) A0_0 c0_0 (wrap64 (4 * (wrap64 (1 + t5.1)))) (wrap64 (4 * (wrap64 (1 + t5.1)))) _ t287.1 t287.2 _ _ HS.b (HS.nodupM 5 rfl) (HS.boundM 5 rfl) (HS.footOM 5 rfl 1 rfl) hc0_0 (HS.mu 5 rfl) ha288) ?_
     clear ha288
     rintro _ w289 ⟨A290, c291, A294, c295, rfl, le292, hf293, le296, hf297, hbx_, hrest_, hB1_⟩
     replace HS := HS.newM 5 rfl hB1_ hrest_ hbx_ (foot_cons hf293 (foot_cons hf297 foot_nil))
     dsimp only [List.set] at HS
     clear hB1_ hrest_ hbx_
     refine ⟨_, rfl, ?_⟩
     refine v_ (fa_ underlying52) ?_
     refine WL.storeS HS 0 rfl rfl rfl rfl rfl rfl (oneL rfl) (by kernel_rfl) (ble_ rfl) (cs' := #[.slice A231 t228.1.length c232, vi t274.1.f0, .slice A277 t274.1.f1.length c278, .slice A281 t274.1.f2.length c282, vi t274.1.f3, vi t274.1.f4, vi t287.1.f0, .slice A290 t287.1.f1.length c291, .slice A294 t287.1.f2.length c295, vi t287.1.f3, vi t287.1.f4, vi 0, sn, sn, vi 0, vi 0, vi 0, sn, sn, vi 0, vi 0, .slice A238 t235.1.length c239, vi 0, sn, sn, vi 0, vi 0, vi 0, sn, sn, vi 0, vi 0]) (by kernel_rfl) (fun w298 HS => ?_)
     dsimp only [List.set] at HS
     refine dn_ hK286 (sr_ fun _ hK299 => ?_)
     clear hK286
     exact by (
     refine mv_ ?_
     refine v_ (fa_ underlying33) ?_
     refine v_ (lb_ (HS.mu 3 rfl) underlying3 rfl) ?_
     refine v_ (fa_ underlying33) ?_
     refine v_ (lb_ (HS.mu 3 rfl) underlying3 rfl) ?_
     obtain ⟨t300, ha301, H⟩ := bind_some H
     refine c_ func42 (sM.runs k213 b0 (⟨x0.f0, t287.2.f1, t287.2.f2⟩ : S83) A0_0 c0_0 (wrap64 (4 * (wrap64 (1 + t5.1)))) (wrap64 (4 * (wrap64 (1 + t5.1)))) _ t300.1 t300.2 _ _ HS.b (HS.nodupM 5 rfl) (HS.boundM 5 rfl) (HS.footOM 5 rfl 1 rfl) hc0_0 (HS.mu 5 rfl) ha301) ?_
     clear ha301
     rintro _ w302 ⟨A303, c304, A307, c308, rfl, le305, hf306, le309, hf310, hbx_, hrest_, hB1_⟩
     replace HS := HS.newM 5 rfl hB1_ hrest_ hbx_ (foot_cons hf306 (foot_cons hf310 foot_nil))
     dsimp only [List.set] at HS
     clear hB1_ hrest_ hbx_
     refine ⟨_, rfl, ?_⟩
     refine v_ (fa_ underlying52) ?_
     refine WL.storeS HS 0 rfl rfl rfl rfl rfl rfl (oneL rfl) (by kernel_rfl) (ble_ rfl) (cs' := #[.slice A231 t228.1.length c232, vi t274.1.f0, .slice A277 t274.1.f1.length c278, .slice A281 t274.1.f2.length c282, vi t274.1.f3, vi t274.1.f4, vi t287.1.f0, .slice A290 t287.1.f1.length c291, .slice A294 t287.1.f2.length c295, vi t287.1.f3, vi t287.1.f4, vi t300.1.f0, .slice A303 t300.1.f1.length c304, .slice A307 t300.1.f2.length c308, vi t300.1.f3, vi t300.1.f4, vi 0, sn, sn, vi 0, vi 0, .slice A238 t235.1.length c239, vi 0, sn, sn, vi 0, vi 0, vi 0, sn, sn, vi 0, vi 0]) (by kernel_rfl) (fun w311 HS => ?_)
     dsimp only [List.set] at HS
     exact by (
     refine dn_ hK299 (sr_ fun _ hK312 => ?_)
     clear hK299
     refine mv_ ?_
     refine v_ (fa_ underlying33) ?_
     refine v_ (lb_ (HS.mu 3 rfl) underlying3 rfl) ?_
     refine v_ (fa_ underlying33) ?_
     refine v_ (lb_ (HS.mu 3 rfl) underlying3 rfl) ?_
     obtain ⟨t313, ha314, H⟩ := bind_some H
     refine c_ func42 (sM.runs k213 b0 (⟨x0.f0, t300.2.f1, t300.2.f2⟩ : S83) A0_0 c0_0 (wrap64 (4 * (wrap64 (1 + t5.1)))) (wrap64 (4 * (wrap64 (1 + t5.1)))) _ t313.1 t313.2 _ _ HS.b (HS.nodupM 5 rfl) (HS.boundM 5 rfl) (HS.footOM 5 rfl 1 rfl) hc0_0 (HS.mu 5 rfl) ha314) ?_
     clear ha314
     rintro _ w315 ⟨A316, c317, A320, c321, rfl, le318, hf319, le322, hf323, hbx_, hrest_, hB1_⟩
     replace HS := HS.newM 5 rfl hB1_ hrest_ hbx_ (foot_cons hf319 (foot_cons hf323 foot_nil))
     dsimp only [List.set] at HS
     clear hB1_ hrest_ hbx_
     refine ⟨_, rfl, ?_⟩
     refine v_ (fa_ underlying52) ?_
     exact by (
     refine WL.storeS HS 0 rfl rfl rfl rfl rfl rfl (oneL rfl) (by kernel_rfl) (ble_ rfl) (cs' := #[.slice A231 t228.1.length c232, vi t274.1.f0, .slice A277 t274.1.f1.length c278, .slice A281 t274.1.f2.length c282, vi t274.1.f3, vi t274.1.f4, vi t287.1.f0, .slice A290 t287.1.f1.length c291, .slice A294 t287.1.f2.length c295, vi t287.1.f3, vi t287.1.f4, vi t300.1.f0, .slice A303 t300.1.f1.length c304, .slice A307 t300.1.f2.length c308, vi t300.1.f3, vi t300.1.f4, vi t313.1.f0, .slice A316 t313.1.f1.length c317, .slice A320 t313.1.f2.length c321, vi t313.1.f3, vi t313.1.f4, .slice A238 t235.1.length c239, vi 0, sn, sn, vi 0, vi 0, vi 0, sn, sn, vi 0, vi 0]) (by kernel_rfl) (fun w324 HS => ?_)
     dsimp only [List.set] at HS
     refine dn_ hK312 (sr_ fun _ hK325 => ?_)
     clear hK312
     refine mv_ ?_
     refine v_ (fa_ underlying33) ?_
     refine v_ (lb_ (HS.mu 3 rfl) underlying3 rfl) ?_
     refine mv_ ?_
     obtain ⟨t326, ha327, H⟩ := bind_some H
     refine c_ func42 (sM.runs k213 b0 (⟨x0.f0, t313.2.f1, t313.2.f2⟩ : S83) A0_0 c0_0 (wrap64 (4 * (wrap64 (1 + t5.1)))) (wrap64 (4 * (wrap64 (1 + t222.1)))) _ t326.1 t326.2 _ _ HS.b (HS.nodupM 5 rfl) (HS.boundM 5 rfl) (HS.footOM 5 rfl 1 rfl) hc0_0 (HS.mu 5 rfl) ha327) ?_
     clear ha327
     rintro _ w328 ⟨A329, c330, A333, c334, rfl, le331, hf332, le335, hf336, hbx_, hrest_, hB1_⟩
     replace HS := HS.newM 5 rfl hB1_ hrest_ hbx_ (foot_cons hf332 (foot_cons hf336 foot_nil))
     dsimp only [List.set] at HS
     clear hB1_ hrest_ hbx_
     refine ⟨_, rfl, ?_⟩
     exact by (
     refine v_ (fa_ underlying52) ?_
     refine WL.storeS HS 0 rfl rfl rfl rfl rfl rfl (oneL rfl) (by kernel_rfl) (ble_ rfl) (cs' := #[.slice A231 t228.1.length c232, vi t274.1.f0, .slice A277 t274.1.f1.length c278, .slice A281 t274.1.f2.length c282, vi t274.1.f3, vi t274.1.f4, vi t287.1.f0, .slice A290 t287.1.f1.length c291, .slice A294 t287.1.f2.length c295, vi t287.1.f3, vi t287.1.f4, vi t300.1.f0, .slice A303 t300.1.f1.length c304, .slice A307 t300.1.f2.length c308, vi t300.1.f3, vi t300.1.f4, vi t313.1.f0, .slice A316 t313.1.f1.length c317, .slice A320 t313.1.f2.length c321, vi t313.1.f3, vi t313.1.f4, .slice A238 t235.1.length c239, vi t326.1.f0, .slice A329 t326.1.f1.length c330, .slice A333 t326.1.f2.length c334, vi t326.1.f3, vi t326.1.f4, vi 0, sn, sn, vi 0, vi 0]) (by kernel_rfl) (fun w337 HS => ?_)
     dsimp only [List.set] at HS
     refine dn_ hK325 (sr_ fun _ hK338 => ?_)
     clear hK325
     refine mv_ ?_
     refine mv_ ?_
     refine v_ (fa_ underlying33) ?_
     refine v_ (lb_ (HS.mu 3 rfl) underlying3 rfl) ?_
     obtain ⟨t339, ha340, H⟩ := bind_some H
     refine c_ func42 (sM.runs k213 b0 (⟨x0.f0, t326.2.f1, t326.2.f2⟩ : S83) A0_0 c0_0 (wrap64 (4 * (wrap64 (1 + t222.1)))) (wrap64 (4 * (wrap64 (1 + t5.1)))) _ t339.1 t339.2 _ _ HS.b (HS.nodupM 5 rfl) (HS.boundM 5 rfl) (HS.footOM 5 rfl 1 rfl) hc0_0 (HS.mu 5 rfl) ha340) ?_
     clear ha340
     rintro _ w341 ⟨A342, c343, A346, c347, rfl, le344, hf345, le348, hf349, hbx_, hrest_, hB1_⟩
     replace HS := HS.newM 5 rfl hB1_ hrest_ hbx_ (foot_cons hf345 (foot_cons hf349 foot_nil))
     dsimp only [List.set] at HS
     clear hB1_ hrest_ hbx_
     exact by (
     refine ⟨_, rfl, ?_⟩
     refine v_ (fa_ underlying52) ?_
     refine WL.storeS HS 0 rfl rfl rfl rfl rfl rfl (oneL rfl) (by kernel_rfl) (ble_ rfl) (cs' := #[.slice A231 t228.1.length c232, vi t274.1.f0, .slice A277 t274.1.f1.length c278, .slice A281 t274.1.f2.length c282, vi t274.1.f3, vi t274.1.f4, vi t287.1.f0, .slice A290 t287.1.f1.length c291, .slice A294 t287.1.f2.length c295, vi t287.1.f3, vi t287.1.f4, vi t300.1.f0, .slice A303 t300.1.f1.length c304, .slice A307 t300.1.f2.length c308, vi t300.1.f3, vi t300.1.f4, vi t313.1.f0, .slice A316 t313.1.f1.length c317, .slice A320 t313.1.f2.length c321, vi t313.1.f3, vi t313.1.f4, .slice A238 t235.1.length c239, vi t326.1.f0, .slice A329 t326.1.f1.length c330, .slice A333 t326.1.f2.length c334, vi t326.1.f3, vi t326.1.f4, vi t339.1.f0, .slice A342 t339.1.f1.length c343, .slice A346 t339.1.f2.length c347, vi t339.1.f3, vi t339.1.f4]) (by kernel_rfl) (fun w350 HS => ?_)
     dsimp only [List.set] at HS
     refine dn_ hK338 (rg_ (v_ (fa_ underlying33) ?_))
     clear hK338
     obtain ⟨A351, c352, rfl⟩ := row_slice (HS.mu 1 rfl)
     refine v_ (lb_ (HS.mu 3 rfl) underlying26 rfl) ?_
     refine v_ (ls_ (HS.mu 0 rfl) underlying52 part_all) ?_
     refine WL.val rfl rfl (by decide) (Run.lit1 (z := (.agg zz2)) (vs := [.slice A231 t228.1.length c232, vi t274.1.f0, .slice A277 t274.1.f1.length c278, .slice A281 t274.1.f2.length c282, vi t274.1.f3, vi t274.1.f4, vi t287.1.f0, .slice A290 t287.1.f1.length c291, .slice A294 t287.1.f2.length c295, vi t287.1.f3, vi t287.1.f4, vi t300.1.f0, .slice A303 t300.1.f1.length c304, .slice A307 t300.1.f2.length c308, vi t300.1.f3, vi t300.1.f4, vi t313.1.f0, .slice A316 t313.1.f1.length c317, .slice A320 t313.1.f2.length c321, vi t313.1.f3, vi t313.1.f4, .slice A238 t235.1.length c239, vi t326.1.f0, .slice A329 t326.1.f1.length c330, .slice A333 t326.1.f2.length c334, vi t326.1.f3, vi t326.1.f4, vi t339.1.f0, .slice A342 t339.1.f1.length c343, .slice A346 t339.1.f2.length c347, vi t339.1.f3, vi t339.1.f4]) rfl rfl rfl underlying26 (by kernel_rfl) (ble_ rfl) (ble_ rfl)) ?_
     have HS1 := HS.below (below_alloc (Below.refl _ _) (.cells #[.slice A231 t228.1.length c232, vi t274.1.f0, .slice A277 t274.1.f1.length c278, .slice A281 t274.1.f2.length c282, vi t274.1.f3, vi t274.1.f4, vi t287.1.f0, .slice A290 t287.1.f1.length c291, .slice A294 t287.1.f2.length c295, vi t287.1.f3, vi t287.1.f4, vi t300.1.f0, .slice A303 t300.1.f1.length c304, .slice A307 t300.1.f2.length c308, vi t300.1.f3, vi t300.1.f4, vi t313.1.f0, .slice A316 t313.1.f1.length c317, .slice A320 t313.1.f2.length c321, vi t313.1.f3, vi t313.1.f4, .slice A238 t235.1.length c239, vi t326.1.f0, .slice A329 t326.1.f1.length c330, .slice A333 t326.1.f2.length c334, vi t326.1.f3, vi t326.1.f4, vi t339.1.f0, .slice A342 t339.1.f1.length c343, .slice A346 t339.1.f2.length c347, vi t339.1.f3, vi t339.1.f4] 52))
     obtain ⟨q353, H⟩ := if_some H
     refine WL.append HS1 1 rfl rfl rfl (by decide) rfl (.agg zz2) 480 underlying26 (by kernel_rfl) rfl (by decide) (by decide) rfl rfl [.slice A231 t228.1.length c232, vi t274.1.f0, .slice A277 t274.1.f1.length c278, .slice A281 t274.1.f2.length c282, vi t274.1.f3, vi t274.1.f4, vi t287.1.f0, .slice A290 t287.1.f1.length c291, .slice A294 t287.1.f2.length c295, vi t287.1.f3, vi t287.1.f4, vi t300.1.f0, .slice A303 t300.1.f1.length c304, .slice A307 t300.1.f2.length c308, vi t300.1.f3, vi t300.1.f4, vi t313.1.f0, .slice A316 t313.1.f1.length c317, .slice A320 t313.1.f2.length c321, vi t313.1.f3, vi t313.1.f4, .slice A238 t235.1.length c239, vi t326.1.f0, .slice A329 t326.1.f1.length c330, .slice A333 t326.1.f2.length c334, vi t326.1.f3, vi t326.1.f4, vi t339.1.f0, .slice A342 t339.1.f1.length c343, .slice A346 t339.1.f2.length c347, vi t339.1.f3, vi t339.1.f4] rfl (lit_news _ _ _) (oneL rfl) (by omega) ((xs56 ++ [(⟨t228.1, (⟨t274.1.f0, t274.1.f1, t274.1.f2, t274.1.f3, t274.1.f4⟩ : S29), (⟨t287.1.f0, t287.1.f1, t287.1.f2, t287.1.f3, t287.1.f4⟩ : S29), (⟨t300.1.f0, t300.1.f1, t300.1.f2, t300.1.f3, t300.1.f4⟩ : S29), (⟨t313.1.f0, t313.1.f1, t313.1.f2, t313.1.f3, t313.1.f4⟩ : S29), t235.1, (⟨t326.1.f0, t326.1.f1, t326.1.f2, t326.1.f3, t326.1.f4⟩ : S29), (⟨t339.1.f0, t339.1.f1, t339.1.f2, t339.1.f3, t339.1.f4⟩ : S29)⟩ : S52)]).length) (by simp) (fun v354 w355 I356 hI357 HS => ?_)
     dsimp only [List.set] at HS
     replace HS := HS.deriveN (p := (rF k52 (xs56 ++ [(⟨t228.1, (⟨t274.1.f0, t274.1.f1, t274.1.f2, t274.1.f3, t274.1.f4⟩ : S29), (⟨t287.1.f0, t287.1.f1, t287.1.f2, t287.1.f3, t287.1.f4⟩ : S29), (⟨t300.1.f0, t300.1.f1, t300.1.f2, t300.1.f3, t300.1.f4⟩ : S29), (⟨t313.1.f0, t313.1.f1, t313.1.f2, t313.1.f3, t313.1.f4⟩ : S29), t235.1, (⟨t326.1.f0, t326.1.f1, t326.1.f2, t326.1.f3, t326.1.f4⟩ : S29), (⟨t339.1.f0, t339.1.f1, t339.1.f2, t339.1.f3, t339.1.f4⟩ : S29)⟩ : S52)]) I356)) (fun W_ hN_ => reps_snoc hI357 hN_.2.2.2.2.2.2.2.2.2.2.2.2.2.2.1 (k52_mk _ (⟨t228.1, (⟨t274.1.f0, t274.1.f1, t274.1.f2, t274.1.f3, t274.1.f4⟩ : S29), (⟨t287.1.f0, t287.1.f1, t287.1.f2, t287.1.f3, t287.1.f4⟩ : S29), (⟨t300.1.f0, t300.1.f1, t300.1.f2, t300.1.f3, t300.1.f4⟩ : S29), (⟨t313.1.f0, t313.1.f1, t313.1.f2, t313.1.f3, t313.1.f4⟩ : S29), t235.1, (⟨t326.1.f0, t326.1.f1, t326.1.f2, t326.1.f3, t326.1.f4⟩ : S29), (⟨t339.1.f0, t339.1.f1, t339.1.f2, t339.1.f3, t339.1.f4⟩ : S29)⟩ : S52) (le233) hN_.2.2.2.2.2.2.2.2.2.2.2.2.2.1 (le279) hN_.2.2.2.2.2.2.2.2.2.2.1 (le283) hN_.2.2.2.2.2.2.2.2.2.2.2.1 (le292) hN_.2.2.2.2.2.2.2.2.1 (le296) hN_.2.2.2.2.2.2.2.2.2.1 (le305) hN_.2.2.2.2.2.2.1 (le309) hN_.2.2.2.2.2.2.2.1 (le318) hN_.2.2.2.2.1 (le322) hN_.2.2.2.2.2.1 (le240) hN_.2.2.2.2.2.2.2.2.2.2.2.2.1 (le331) hN_.2.2.1 (le335) hN_.2.2.2.1 (le344) hN_.1 (le348) hN_.2.1))
     clear HS1
     exact by (
     refine v_ (fa_ underlying33) ?_
     obtain ⟨A359, c360, rfl⟩ := row_slice (HS.mu 1 rfl)
     refine WL.store HS 3 rfl rfl rfl rfl rfl rfl rfl (by kernel_rfl) (ble_ rfl) (cs' := #[vi (wrap64 (4 * (wrap64 (1 + t5.1)))), vi (wrap64 (1 + t8.1)), vi (wrap64 (4 + t11.1)), .slice A21 t18.1.length c22, v42, (.slice A359 ((xs56 ++ [(⟨t228.1, (⟨t274.1.f0, t274.1.f1, t274.1.f2, t274.1.f3, t274.1.f4⟩ : S29), (⟨t287.1.f0, t287.1.f1, t287.1.f2, t287.1.f3, t287.1.f4⟩ : S29), (⟨t300.1.f0, t300.1.f1, t300.1.f2, t300.1.f3, t300.1.f4⟩ : S29), (⟨t313.1.f0, t313.1.f1, t313.1.f2, t313.1.f3, t313.1.f4⟩ : S29), t235.1, (⟨t326.1.f0, t326.1.f1, t326.1.f2, t326.1.f3, t326.1.f4⟩ : S29), (⟨t339.1.f0, t339.1.f1, t339.1.f2, t339.1.f3, t339.1.f4⟩ : S29)⟩ : S52)]).length) c360), sn, vi 0, sn, sn, vi 0, vi 0, sn, sn]) (by kernel_rfl) (fun w358 HS => ?_)
     dsimp only [List.set] at HS
     refine dn_ hK220 (rg_ (mv_ ?_))
     clear hK220
     refine b_ bin_add64 ?_
     refine as_ ?_
     refine WL.done ?_
     exact wr_ k213 iq ⟨(wrap64 (i53 + 1)), t339.2.f1, t339.2.f2, (xs56 ++ [(⟨t228.1, (⟨t274.1.f0, t274.1.f1, t274.1.f2, t274.1.f3, t274.1.f4⟩ : S29), (⟨t287.1.f0, t287.1.f1, t287.1.f2, t287.1.f3, t287.1.f4⟩ : S29), (⟨t300.1.f0, t300.1.f1, t300.1.f2, t300.1.f3, t300.1.f4⟩ : S29), (⟨t313.1.f0, t313.1.f1, t313.1.f2, t313.1.f3, t313.1.f4⟩ : S29), t235.1, (⟨t326.1.f0, t326.1.f1, t326.1.f2, t326.1.f3, t326.1.f4⟩ : S29), (⟨t339.1.f0, t339.1.f1, t339.1.f2, t339.1.f3, t339.1.f4⟩ : S29)⟩ : S52)]), (.slice A359 ((xs56 ++ [(⟨t228.1, (⟨t274.1.f0, t274.1.f1, t274.1.f2, t274.1.f3, t274.1.f4⟩ : S29), (⟨t287.1.f0, t287.1.f1, t287.1.f2, t287.1.f3, t287.1.f4⟩ : S29), (⟨t300.1.f0, t300.1.f1, t300.1.f2, t300.1.f3, t300.1.f4⟩ : S29), (⟨t313.1.f0, t313.1.f1, t313.1.f2, t313.1.f3, t313.1.f4⟩ : S29), t235.1, (⟨t326.1.f0, t326.1.f1, t326.1.f2, t326.1.f3, t326.1.f4⟩ : S29), (⟨t339.1.f0, t339.1.f1, t339.1.f2, t339.1.f3, t339.1.f4⟩ : S29)⟩ : S52)]).length) c360), I356, ⟨_, H, Ho52⟩, rfl, (St.pk (St.forget HS 0 rfl) [0, 1] [0, 16, 17] rfl rfl)⟩ ))))))))
   refine two__ 3 9 ?_ ?_
   · have HT_ := True.intro
     obtain ⟨t228, ha229, H⟩ := bind_some H
     refine dco_ 3 (w_none rfl) func41 (sG.runs k213 b0 (⟨x0.f0, t222.2.f1, t222.2.f2⟩ : S83) A0_0 c0_0 (wrap64 (4 * (wrap64 (1 + t5.1)))) _ t228.1 t228.2 _ _ HS.b (HS.nodupM 4 rfl) (HS.boundM 4 rfl) (HS.footOM 4 rfl 1 rfl) hc0_0 (HS.mu 4 rfl) ha229) ?_
     clear ha229
     rintro _ w230 ⟨A231, c232, rfl, le233, hf234, hbx_, hrest_, hB1_⟩
     exact by (
     replace HS := HS.newM 4 rfl hB1_ hrest_ hbx_ (foot_cons hf234 foot_nil)
     dsimp only [List.set] at HS
     clear hB1_ hrest_ hbx_
     refine ⟨⟨HS.nowO, HS.nowN.2, ⟨(HS.mu 0 rfl), (HS.mu 1 rfl), (HS.mu 2 rfl), (HS.mu 3 rfl), trivial⟩⟩, _, rfl, ?_⟩
     refine two__ 7 9 ?_ ?_
     · have HT_ := True.intro
       obtain ⟨t235, ha236, H⟩ := bind_some H
       refine dco_ 7 (w_none rfl) func41 (sG.runs k213 b0 (⟨x0.f0, t228.2.f1, t228.2.f2⟩ : S83) A0_0 c0_0 (wrap64 (4 * (wrap64 (1 + t5.1)))) _ t235.1 t235.2 _ _ HS.b (HS.nodupM 4 rfl) (HS.boundM 4 rfl) (HS.footOM 4 rfl 1 rfl) hc0_0 (HS.mu 4 rfl) ha236) ?_
       clear ha236
       rintro _ w237 ⟨A238, c239, rfl, le240, hf241, hbx_, hrest_, hB1_⟩
       replace HS := HS.newM 4 rfl hB1_ hrest_ hbx_ (foot_cons hf241 foot_nil)
       dsimp only [List.set] at HS
       clear hB1_ hrest_ hbx_
       refine ⟨⟨HS.nowO, HS.nowN.2.2, ⟨(HS.mu 0 rfl), (HS.mu 1 rfl), (HS.mu 2 rfl), (HS.mu 3 rfl), trivial⟩⟩, _, rfl, ?_⟩
       refine db_ 8 [(0, .slice A231 t228.1.length c232), (5, .slice A238 t235.1.length c239)] (cells := #[.slice A231 t228.1.length c232, vi 0, sn, sn, vi 0, vi 0, vi 0, sn, sn, vi 0, vi 0, vi 0, sn, sn, vi 0, vi 0, vi 0, sn, sn, vi 0, vi 0, .slice A238 t235.1.length c239, vi 0, sn, sn, vi 0, vi 0, vi 0, sn, sn, vi 0, vi 0]) rfl rfl ⟨⟨rfl, rfl⟩, ⟨⟨rfl, rfl⟩, trivial⟩⟩ (by kernel_rfl) ?_
       refine WD.alloc (v := .agg zz2) (cs := zz2) 9 (w_none rfl) HS rfl (by kernel_rfl) rfl (fun b242 w243 hb242 HS => ?_)
       exact by (
       refine ⟨⟨HS.nowO, HS.nowN.2.2, ⟨(HS.mu 1 rfl), (HS.mu 2 rfl), (HS.mu 3 rfl), (HS.mu 4 rfl), trivial⟩⟩, ?_⟩
       refine WD.storeSL 10 HS 0 rfl rfl rfl rfl (oneL rfl) (by kernel_rfl) (ble_ rfl) (cs' := #[.slice A231 t228.1.length c232, vi 0, sn, sn, vi 0, vi 0, vi 0, sn, sn, vi 0, vi 0, vi 0, sn, sn, vi 0, vi 0, vi 0, sn, sn, vi 0, vi 0, .slice A238 t235.1.length c239, vi 0, sn, sn, vi 0, vi 0, vi 0, sn, sn, vi 0, vi 0]) (by kernel_rfl) (fun w244 HS => ?_)
       dsimp only [List.set] at HS
       exact dd_ (wv_ iq X227 ⟨b242, A231, t228, c232, A238, t235, c239, rfl, H, le233, le240, HS⟩) )
     · have HT_ := True.intro
       refine WDo.alloc (v := .agg zz2) (cs := zz2) 9 (w_none rfl) HS rfl (by kernel_rfl) rfl (fun b245 w246 hb245 HS => ?_)
       refine ⟨⟨HS.nowO, HS.nowN.2, ⟨(HS.mu 1 rfl), (HS.mu 2 rfl), (HS.mu 3 rfl), (HS.mu 4 rfl), trivial⟩⟩, ?_⟩
       obtain ⟨t247, ha248, H⟩ := bind_some H
       refine dc_ 7 (w_none rfl) func41 (sG.runs k213 b0 (⟨x0.f0, t228.2.f1, t228.2.f2⟩ : S83) A0_0 c0_0 (wrap64 (4 * (wrap64 (1 + t5.1)))) _ t247.1 t247.2 _ _ HS.b (HS.nodupM 5 rfl) (HS.boundM 5 rfl) (HS.footOM 5 rfl 1 rfl) hc0_0 (HS.mu 5 rfl) ha248) ?_
       clear ha248
       rintro _ w249 ⟨A250, c251, rfl, le252, hf253, hbx_, hrest_, hB1_⟩
       replace HS := HS.newM 5 rfl hB1_ hrest_ hbx_ (foot_cons hf253 foot_nil)
       dsimp only [List.set] at HS
       clear hB1_ hrest_ hbx_
       refine ⟨⟨HS.nowO, HS.nowN.2.2, ⟨(HS.mu 1 rfl), (HS.mu 2 rfl), (HS.mu 3 rfl), (HS.mu 4 rfl), trivial⟩⟩, _, rfl, ?_⟩
       refine db_ 8 [(0, .slice A231 t228.1.length c232), (5, .slice A250 t247.1.length c251)] (cells := #[.slice A231 t228.1.length c232, vi 0, sn, sn, vi 0, vi 0, vi 0, sn, sn, vi 0, vi 0, vi 0, sn, sn, vi 0, vi 0, vi 0, sn, sn, vi 0, vi 0, .slice A250 t247.1.length c251, vi 0, sn, sn, vi 0, vi 0, vi 0, sn, sn, vi 0, vi 0]) rfl rfl ⟨⟨rfl, rfl⟩, ⟨⟨rfl, rfl⟩, trivial⟩⟩ (by kernel_rfl) ?_
       exact by (
       refine WD.storeSL 10 HS 0 rfl rfl rfl rfl (oneL rfl) (by kernel_rfl) (ble_ rfl) (cs' := #[.slice A231 t228.1.length c232, vi 0, sn, sn, vi 0, vi 0, vi 0, sn, sn, vi 0, vi 0, vi 0, sn, sn, vi 0, vi 0, vi 0, sn, sn, vi 0, vi 0, .slice A250 t247.1.length c251, vi 0, sn, sn, vi 0, vi 0, vi 0, sn, sn, vi 0, vi 0]) (by kernel_rfl) (fun w254 HS => ?_)
       dsimp only [List.set] at HS
       exact dd_ (wv_ iq X227 ⟨b245, A231, t228, c232, A250, t247, c251, rfl, H, le233, le252, HS⟩) ))
   · have HT_ := True.intro
     refine WDo.alloc (v := .agg zz2) (cs := zz2) 9 (w_none rfl) HS rfl (by kernel_rfl) rfl (fun b255 w256 hb255 HS => ?_)
     refine ⟨⟨HS.nowO, HS.nowN, ⟨(HS.mu 1 rfl), (HS.mu 2 rfl), (HS.mu 3 rfl), (HS.mu 4 rfl), trivial⟩⟩, ?_⟩
     obtain ⟨t257, ha258, H⟩ := bind_some H
     refine dc_ 3 (w_none rfl) func41 (sG.runs k213 b0 (⟨x0.f0, t222.2.f1, t222.2.f2⟩ : S83) A0_0 c0_0 (wrap64 (4 * (wrap64 (1 + t5.1)))) _ t257.1 t257.2 _ _ HS.b (HS.nodupM 5 rfl) (HS.boundM 5 rfl) (HS.footOM 5 rfl 1 rfl) hc0_0 (HS.mu 5 rfl) ha258) ?_
     clear ha258
     rintro _ w259 ⟨A260, c261, rfl, le262, hf263, hbx_, hrest_, hB1_⟩
     replace HS := HS.newM 5 rfl hB1_ hrest_ hbx_ (foot_cons hf263 foot_nil)
     dsimp only [List.set] at HS
     clear hB1_ hrest_ hbx_
     refine ⟨⟨HS.nowO, HS.nowN.2, ⟨(HS.mu 1 rfl), (HS.mu 2 rfl), (HS.mu 3 rfl), (HS.mu 4 rfl), trivial⟩⟩, _, rfl, ?_⟩
     obtain ⟨t264, ha265, H⟩ := bind_some H
     refine dc_ 7 (w_none rfl) func41 (sG.runs k213 b0 (⟨x0.f0, t257.2.f1, t257.2.f2⟩ : S83) A0_0 c0_0 (wrap64 (4 * (wrap64 (1 + t5.1)))) _ t264.1 t264.2 _ _ HS.b (HS.nodupM 5 rfl) (HS.boundM 5 rfl) (HS.footOM 5 rfl 1 rfl) hc0_0 (HS.mu 5 rfl) ha265) ?_
     exact by (
     clear ha265
     rintro _ w266 ⟨A267, c268, rfl, le269, hf270, hbx_, hrest_, hB1_⟩
     replace HS := HS.newM 5 rfl hB1_ hrest_ hbx_ (foot_cons hf270 foot_nil)
     dsimp only [List.set] at HS
     clear hB1_ hrest_ hbx_
     refine ⟨⟨HS.nowO, HS.nowN.2.2, ⟨(HS.mu 1 rfl), (HS.mu 2 rfl), (HS.mu 3 rfl), (HS.mu 4 rfl), trivial⟩⟩, _, rfl, ?_⟩
     refine db_ 8 [(0, .slice A260 t257.1.length c261), (5, .slice A267 t264.1.length c268)] (cells := #[.slice A260 t257.1.length c261, vi 0, sn, sn, vi 0, vi 0, vi 0, sn, sn, vi 0, vi 0, vi 0, sn, sn, vi 0, vi 0, vi 0, sn, sn, vi 0, vi 0, .slice A267 t264.1.length c268, vi 0, sn, sn, vi 0, vi 0, vi 0, sn, sn, vi 0, vi 0]) rfl rfl ⟨⟨rfl, rfl⟩, ⟨⟨rfl, rfl⟩, trivial⟩⟩ (by kernel_rfl) ?_
     refine WD.storeSL 10 HS 0 rfl rfl rfl rfl (oneL rfl) (by kernel_rfl) (ble_ rfl) (cs' := #[.slice A260 t257.1.length c261, vi 0, sn, sn, vi 0, vi 0, vi 0, sn, sn, vi 0, vi 0, vi 0, sn, sn, vi 0, vi 0, vi 0, sn, sn, vi 0, vi 0, .slice A267 t264.1.length c268, vi 0, sn, sn, vi 0, vi 0, vi 0, sn, sn, vi 0, vi 0]) (by kernel_rfl) (fun w271 HS => ?_)
     dsimp only [List.set] at HS
     exact dd_ (wv_ iq X227 ⟨b255, A260, t257, c261, A267, t264, c268, rfl, H, le262, le269, HS⟩) )))))
 clear hK34
 refine WC.loop (fun k_ E_ W_ => ∃ i40 xs41 v42 I43, (∃ o_, sR.l3 t5 t27 t31 k_ i40 xs41 = some o_ ∧ G36 o_ = some (r1, y_)) ∧ J44 i40 xs41 v42 I43 E_ W_) k ⟨0, ([] : List (List Int)), (sn), ([]), ⟨_, H, Ho39⟩, rfl, (St.pk HS [0, 1] [0, 2] rfl rfl)⟩ (sb rfl) ?_
 rintro k_ E_ w362 ⟨i40, xs41, v42, I43, ⟨oc38, H, Ho39⟩, rfl, HS⟩
 rcases k_ with _ | k363
 · exact no_ H
 replace H : sR.b3 t5 t27 t31 (sR.l3 t5 t27 t31 k363) k363 i40 xs41 = some oc38 := H
 exact by (
 unfold sR.b3 at H
 refine WC.seq fun _ hK364 => ?_
 refine sr_ fun _ hK365 => ?_
 refine mv_ ?_
 refine mv_ ?_
 refine b_ bin_lss ?_
 refine dn_ hK365 ?_
 clear hK365
 rcases eti_ H with ⟨c366, H⟩ | ⟨c366, H⟩
 · refine wn_ (dF c366) (WC.exit ?_)
   obtain rfl := os H
   exact wv_ iq X45 ⟨i40, xs41, v42, I43, Ho39, rfl, HS⟩
 refine wy_ (dT c366) (WC.skip (via_ hK364 (WC.seq fun _ hK367 => ?_)))
 clear hK364
 refine WC.block (sr_ fun _ hK368 => ?_)
 refine WL.lit0 HS rfl rfl (by decide) rfl underlying27 (sz := 1) (by kernel_rfl) (fun v369 w370 HS => ?_)
 exact by (
 replace HS := HS.deriveN (p := (rF kI ([] : List Int) [])) (fun _ _ => Reps.none _ _)
 refine ad_ hK368 ?_
 clear hK368
 refine WC.seq fun K371 hK371 => ?_
 refine sr_ fun _ hK372 => ?_
 refine ad_ hK372 ?_
 clear hK372
 refine WC.block ?_
 obtain ⟨G373, hG374, oc375, H, Ho376⟩ := open_G H
 let J381 := fun (xs377 : List Int) v378 I379 (i380 : Int) (E_ : Env) (W_ : World) => E_ = [(0, .pointer (some ⟨b0, 0, none⟩)), (2, .pointer (some ⟨b2, 0, none⟩)), (3, .pointer (some ⟨b14, 0, none⟩)), (4, vi t27), (5, vi t31.1), (6, vi i40), (7, v378), (8, vi i380)] ∧ St (fun _ => True) w0 W_ [rowM w0.heap.size 3 1 v378 xs377.length I379, rowM w0.heap.size 27 1 v42 xs41.length I43, boxM b14 #[vi (wrap64 (4 * (wrap64 (1 + t5.1)))), vi (wrap64 (1 + t8.1)), vi (wrap64 (4 + t11.1)), .slice A21 t18.1.length c22, v42, sn, sn, vi 0, sn, sn, vi 0, vi 0, sn, sn] 33, boxM b2 zz1 33, boxM b0 #[.slice A0_0 x0.f0.length c0_0, vi t31.2.f1, vi t31.2.f2] 83, keepM w bs_] [(frameF w b0 bs_), (cF kU A0_0 x0.f0)] [(rF kI xs377 I379), (rF kS3 xs41 I43), (cF k54 A21 t18.1)]
 have X382 : ∀ E_ W_, (∃ xs377 v378 I379 i380, G373 (xs377, i380) = some oc38 ∧ J381 xs377 v378 I379 i380 E_ W_) → ∀ a, Fits a 222 E_ → K371 a W_ := by
   rintro E_ w383 ⟨xs377, v378, I379, i380, H, rfl, HS⟩
   rw [hG374] at H
   (try dsimp only at H)
   refine hK371 _ _ ?_
   clear hK371
   exact by (
   refine rg_ (v_ (fa_ underlying33) ?_)
   obtain ⟨A384, c385, rfl⟩ := row_slice (HS.mu 1 rfl)
   refine v_ (lb_ (HS.mu 2 rfl) underlying25 rfl) ?_
   refine mv_ ?_
   obtain ⟨A386, c387, rfl⟩ := row_slice (HS.mu 0 rfl)
   have le388 := row_le (HS.mu 0 rfl)
   replace HS := HS.freezeN 0 (p := (cF kI A386 (xs377))) rfl (fun W_ hm_ h_ => row_C (by rfl) hm_ h_.1)
   dsimp only [List.eraseIdx] at HS
   refine WL.val rfl rfl (by decide) (Run.lit1 (z := (sn)) (vs := [.slice A386 xs377.length c387]) rfl rfl rfl underlying25 (by kernel_rfl) (ble_ rfl) (ble_ rfl)) ?_
   have HS1 := HS.below (below_alloc (Below.refl _ _) (.cells #[.slice A386 xs377.length c387] 27))
   obtain ⟨q389, H⟩ := if_some H
   refine WL.append HS1 0 rfl rfl rfl (by decide) rfl (sn) 24 underlying25 (by kernel_rfl) rfl (by decide) (by decide) rfl rfl [.slice A386 xs377.length c387] rfl (lit_news _ _ _) (oneL rfl) (by omega) ((xs41 ++ [xs377]).length) (by simp) (fun v390 w391 I392 hI393 HS => ?_)
   dsimp only [List.set] at HS
   replace HS := HS.deriveN (p := (rF kS3 (xs41 ++ [xs377]) I392)) (fun W_ hN_ => reps_snoc hI393 hN_.2.2.1 (K_slice le388 hN_.1))
   clear HS1
   refine v_ (fa_ underlying33) ?_
   exact by (
   obtain ⟨A395, c396, rfl⟩ := row_slice (HS.mu 0 rfl)
   refine WL.store HS 1 rfl rfl rfl rfl rfl rfl rfl (by kernel_rfl) (ble_ rfl) (cs' := #[vi (wrap64 (4 * (wrap64 (1 + t5.1)))), vi (wrap64 (1 + t8.1)), vi (wrap64 (4 + t11.1)), .slice A21 t18.1.length c22, (.slice A395 ((xs41 ++ [xs377]).length) c396), sn, sn, vi 0, sn, sn, vi 0, vi 0, sn, sn]) (by kernel_rfl) (fun w394 HS => ?_)
   dsimp only [List.set] at HS
   refine dn_ hK367 (rg_ (mv_ ?_))
   clear hK367
   refine b_ bin_add64 ?_
   refine as_ ?_
   refine WL.done ?_
   exact wr_ k363 iq ⟨(wrap64 (i40 + 1)), (xs41 ++ [xs377]), (.slice A395 ((xs41 ++ [xs377]).length) c396), I392, ⟨_, H, Ho39⟩, rfl, (St.pk HS [0, 1] [0, 4] rfl rfl)⟩ ))
 clear hK371
 refine WC.loop (fun k_ E_ W_ => ∃ xs377 v378 I379 i380, (∃ o_, sR.l4 t5 t31 i40 k_ xs377 i380 = some o_ ∧ G373 o_ = some oc38) ∧ J381 xs377 v378 I379 i380 E_ W_) k363 ⟨([] : List Int), v369, ([]), 0, ⟨_, H, Ho376⟩, rfl, HS⟩ (sb rfl) ?_
 rintro k_ E_ w398 ⟨xs377, v378, I379, i380, ⟨oc375, H, Ho376⟩, rfl, HS⟩
 rcases k_ with _ | k399
 · exact no_ H
 replace H : sR.b4 t5 t31 i40 (sR.l4 t5 t31 i40 k399) k399 xs377 i380 = some oc375 := H
 unfold sR.b4 at H
 exact by (
 refine WC.seq fun _ hK400 => ?_
 refine sr_ fun _ hK401 => ?_
 refine mv_ ?_
 refine v_ (fa_ underlying33) ?_
 refine v_ (lb_ (HS.mu 2 rfl) underlying3 rfl) ?_
 refine b_ bin_lss ?_
 refine dn_ hK401 ?_
 clear hK401
 rcases eti_ H with ⟨c402, H⟩ | ⟨c402, H⟩
 · refine wn_ (dF c402) (WC.exit ?_)
   obtain rfl := os H
   exact wv_ iq X382 ⟨xs377, v378, I379, i380, Ho376, rfl, HS⟩
 refine wy_ (dT c402) (WC.skip (via_ hK400 (WC.seq fun _ hK403 => ?_)))
 clear hK400
 refine WC.block (rg_ (mv_ ?_))
 refine mv_ ?_
 exact by (
 refine mv_ ?_
 refine b_ bin_mul64 ?_
 refine b_ bin_add64 ?_
 refine mv_ ?_
 refine b_ bin_mul64 ?_
 refine b_ bin_add64 ?_
 refine mv_ ?_
 refine mv_ ?_
 refine b_ bin_mul64 ?_
 refine b_ bin_mul64 ?_
 refine b_ bin_add64 ?_
 refine v_ (Run.bin rfl rfl rfl (bin_rem (show (255 : Int) ≠ 0 by decide))) ?_
 refine b_ bin_sub64 ?_
 refine WL.val rfl rfl (by decide) (Run.lit1 (z := (vi 0)) (vs := [vi (wrap64 ((Int.tmod (wrap64 ((wrap64 ((wrap64 (t31.1 + (wrap64 (i40 * 37)))) + (wrap64 (i380 * 91)))) + (wrap64 ((wrap64 (i40 * i380)) * 13)))) 255) - 127))]) rfl rfl rfl underlying27 (by kernel_rfl) (ble_ rfl) (ble_ rfl)) ?_
 have HS1 := HS.below (below_alloc (Below.refl _ _) (.cells #[vi (wrap64 ((Int.tmod (wrap64 ((wrap64 ((wrap64 (t31.1 + (wrap64 (i40 * 37)))) + (wrap64 (i380 * 91)))) + (wrap64 ((wrap64 (i40 * i380)) * 13)))) 255) - 127))] 3))
 obtain ⟨q404, H⟩ := if_some H
 exact by (
 refine WL.append HS1 0 rfl rfl rfl (by decide) rfl (vi 0) 8 underlying27 (by kernel_rfl) rfl (by decide) (by decide) rfl rfl [vi (wrap64 ((Int.tmod (wrap64 ((wrap64 ((wrap64 (t31.1 + (wrap64 (i40 * 37)))) + (wrap64 (i380 * 91)))) + (wrap64 ((wrap64 (i40 * i380)) * 13)))) 255) - 127))] rfl (lit_news _ _ _) (oneL rfl) (by omega) ((xs377 ++ [wrap64 ((Int.tmod (wrap64 ((wrap64 ((wrap64 (t31.1 + (wrap64 (i40 * 37)))) + (wrap64 (i380 * 91)))) + (wrap64 ((wrap64 (i40 * i380)) * 13)))) 255) - 127)]).length) (by simp) (fun v405 w406 I407 hI408 HS => ?_)
 dsimp only [List.set] at HS
 replace HS := HS.deriveN (p := (rF kI (xs377 ++ [wrap64 ((Int.tmod (wrap64 ((wrap64 ((wrap64 (t31.1 + (wrap64 (i40 * 37)))) + (wrap64 (i380 * 91)))) + (wrap64 ((wrap64 (i40 * i380)) * 13)))) 255) - 127)]) I407)) (fun W_ hN_ => reps_snoc hI408 hN_.1 (K_int _))
 clear HS1
 refine ad_ hK403 ?_
 clear hK403
 refine rg_ (mv_ ?_)
 refine b_ bin_add64 ?_
 refine as_ ?_
 refine WL.done ?_
 exact wr_ k399 iq ⟨(xs377 ++ [wrap64 ((Int.tmod (wrap64 ((wrap64 ((wrap64 (t31.1 + (wrap64 (i40 * 37)))) + (wrap64 (i380 * 91)))) + (wrap64 ((wrap64 (i40 * i380)) * 13)))) 255) - 127)]), v405, I407, (wrap64 (i380 + 1)), ⟨_, H, Ho376⟩, rfl, (St.pk HS [0, 1] [0, 2, 3] rfl rfl)⟩ ))))))))))
def sDRM.b0 (l0 : List Int) (t12 : S33 × S83) (rec_ : (List Int) → Int → Int → Int → Option ((List Int) × Int × Int × Int)) (k46 : Nat) (xs30 : List Int) (i33 : Int) (i34 : Int) (i35 : Int) : Option ((List Int) × Int × Int × Int) := ((sB.g k46 (⟨l0, i34, i35⟩ : S83) 6).bind fun t49 => (if i33 < (wrap64 (1 + t49.1)) then (if i33 < t12.1.f2 then ((sV.g k46 t12.1).bind fun t55 => ((sB.g k46 (⟨l0, t49.2.f1, t49.2.f2⟩ : S83) t55).bind fun t58 => (if (xs30.length) < 4294967296 then (rec_ (xs30 ++ [t58.1]) (wrap64 (i33 + 1)) t58.2.f1 t58.2.f2) else none))) else (some (xs30, i33, t49.2.f1, t49.2.f2))) else (some (xs30, i33, t49.2.f1, t49.2.f2))))
def sDRM.l0 (l0 : List Int) (t12 : S33 × S83) : Nat → (List Int) → Int → Int → Int → Option ((List Int) × Int × Int × Int)
 | 0, _, _, _, _ => none
 | k + 1, xs30, i33, i34, i35 => sDRM.b0 l0 t12 (sDRM.l0 l0 t12 k) k xs30 i33 i34 i35
def sDRM.g (k : Nat) (l0 : List Int) : Option (S33 × (List Int)) := ((sN.g k l0).bind fun t5 => ((sR.g k (⟨l0, t5.f1, t5.f2⟩ : S83)).bind fun t12 => ((sDRM.l0 l0 t12 k ([] : List Int) 0 t12.2.f1 t12.2.f2).bind (fun oc44 => (some (t12.1, oc44.1))))))
theorem sDRM.runs (k : Nat) (A0 : Option Addr) (c0 : Nat) (l0 : List Int) (r1 : S33) (r2 : List Int) (w : World) (hr0 : kU.C w A0 l0.length l0) (hc0 : l0.length ≤ c0) (H : sDRM.g k l0 = some (r1, r2)) :
   Calls prog 5 #[.slice A0 l0.length c0] w fun e w' => ∃ (cs0_ : List Value) (A1_ : Option Addr) (c1_ : Nat), e = .returned (.tuple #[.agg cs0_.toArray, .slice A1_ r2.length c1_]) ∧ Foot (kF k33 r1 cs0_) w' (fun k_ => w.heap.size ≤ k_) ∧ r2.length ≤ c1_ ∧ Foot (cF kI A1_ r2) w' (fun k_ => w.heap.size ≤ k_) ∧ Below w.heap.size w w' := by
 unfold sDRM.g at H
 have HS : St (fun _ => True) w w [] [(cF kU A0 l0)] [] := St.start (foot_cons (foot_C (Kd.heap_int _) hr0) foot_nil)
 refine cw_ (n := 35) func5 fun R_ hR_ => ?_
 refine sr_ fun _ hK1 => ?_
 refine WL.alloc HS (v := .agg zz1) (cs := zz1) rfl rfl (by decide) rfl (by kernel_rfl) rfl (fun b2 w3 hb2 HS => ?_)
 refine ad_ hK1 ?_
 refine sr_ fun _ hK4 => ?_
 refine mv_ ?_
 obtain ⟨t5, ha6, H⟩ := bind_some H
 refine c_ func12 (sN.runs k A0 c0 l0 t5 _ (HS.getO 0 rfl) hc0 ha6) ?_
 clear ha6
 rintro _ w7 ⟨b8, rfl, hn9, hx10, hb⟩
 replace HS := HS.gotBox hb hn9 hx10
 refine ⟨_, rfl, ?_⟩
 clear hb
 refine ad_ hK4 ?_
 refine sr_ fun _ hK11 => ?_
 refine mv_ ?_
 obtain ⟨t12, ha13, H⟩ := bind_some H
 refine c_ func13 (sR.runs k b8 (⟨l0, t5.f1, t5.f2⟩ : S83) A0 c0 _ t12.1 t12.2 _ _ HS.b (HS.nodupM 0 rfl) (HS.boundM 0 rfl) (HS.footOM 0 rfl 0 rfl) hc0 (HS.mu 0 rfl) ha13) ?_
 clear ha13
 rintro _ w14 ⟨cs15, rfl, hf16, hbx_, hrest_, hB1_⟩
 replace HS := HS.newM 0 rfl hB1_ hrest_ hbx_ (foot_cons hf16 foot_nil)
 dsimp only [List.set] at HS
 have el17 : cs15.length = 14 := k33.K_len (Foot.now hf16)
 clear hB1_ hrest_ hbx_
 refine ⟨_, rfl, ?_⟩
 refine WL.alloc HS (v := .agg zz1) (cs := zz1) rfl rfl (by decide) rfl (by kernel_rfl) rfl (fun b18 w19 hb18 HS => ?_)
 refine WL.storeS HS 0 rfl rfl rfl rfl rfl rfl (Kd.K_one _ (HS.getN 0 rfl)) (by rw [el17]; kernel_rfl) (by rw [el17]; decide) (splice_all (by rw [el17]; rfl)) (fun w20 HS => ?_)
 dsimp only [List.set] at HS
 refine dn_ hK11 (sr_ fun _ hK21 => ?_)
 refine WL.lit0 HS rfl rfl (by decide) rfl underlying27 (sz := 1) (by kernel_rfl) (fun v22 w23 HS => ?_)
 replace HS := HS.deriveN (p := (rF kI ([] : List Int) [])) (fun _ _ => Reps.none _ _)
 refine ad_ hK21 ?_
 refine WC.seq fun K24 hK24 => ?_
 refine sr_ fun _ hK25 => ?_
 refine ad_ hK25 ?_
 refine WC.block ?_
 obtain ⟨G26, hG27, oc28, H, Ho29⟩ := open_G H
 let J36 := fun (xs30 : List Int) v31 I32 (i33 : Int) (i34 : Int) (i35 : Int) (E_ : Env) (W_ : World) => E_ = [(2, .pointer (some ⟨b2, 0, none⟩)), (4, .pointer (some ⟨b8, 0, none⟩)), (5, .pointer (some ⟨b18, 0, none⟩)), (6, v31), (7, vi i33)] ∧ St (fun _ => True) w W_ [rowM w.heap.size 3 1 v31 xs30.length I32, boxM b18 cs15.toArray 33, boxM b8 #[.slice A0 l0.length c0, vi i34, vi i35] 83, boxM b2 zz1 33] [(cF kU A0 l0)] [(rF kI xs30 I32), (kF k33 t12.1 cs15)]
 have X37 : ∀ E_ W_, (∃ xs30 v31 I32 i33 i34 i35, G26 (xs30, i33, i34, i35) = some (r1, r2) ∧ J36 xs30 v31 I32 i33 i34 i35 E_ W_) → ∀ a, Fits a 35 E_ → K24 a W_ := by
   rintro E_ w38 ⟨xs30, v31, I32, i33, i34, i35, H, rfl, HS⟩
   rw [hG27] at H
   (try dsimp only at H)
   refine hK24 _ _ ?_
   refine sr_ fun _ hK39 => ?_
   refine v_ (Run.loadS (cs := cs15) rfl rfl underlying33 rfl (by rw [el17]; kernel_rfl) (box_part (HS.mu 1 rfl) part_all)) ?_
   refine mv_ ?_
   refine WL.storeS HS 3 rfl rfl rfl rfl rfl rfl (Kd.K_one _ (HS.getN 1 rfl)) (by rw [el17]; kernel_rfl) (by rw [el17]; decide) (splice_all (by rw [el17]; rfl)) (fun w40 HS => ?_)
   dsimp only [List.set] at HS
   refine ad_ hK39 ?_
   refine WC.ret ?_
   obtain ⟨A41, c42, rfl⟩ := row_slice (HS.mu 0 rfl)
   have le43 := row_le (HS.mu 0 rfl)
   replace HS := HS.freezeN 0 (p := (cF kI A41 (xs30))) rfl (fun W_ hm_ h_ => row_C (by rfl) hm_ h_.1)
   dsimp only [List.eraseIdx] at HS
   obtain ⟨rfl, rfl⟩ := Prod.mk.inj (os H)
   exact fin2 Try.f5 rfl ⟨_, rfl, resv_box (HS.mu 2 rfl) underlying33 rfl (by rw [el17]; kernel_rfl)⟩ rfl hR_ ⟨_, _, _, rfl, (foot_fresh (HS.footN 2 rfl)), le43, (foot_fresh (HS.footN 0 rfl)), HS.b⟩
 clear hK24
 refine WC.loop (fun k_ E_ W_ => ∃ xs30 v31 I32 i33 i34 i35, (∃ o_, sDRM.l0 l0 t12 k_ xs30 i33 i34 i35 = some o_ ∧ G26 o_ = some (r1, r2)) ∧ J36 xs30 v31 I32 i33 i34 i35 E_ W_) k ⟨([] : List Int), v22, ([]), 0, t12.2.f1, t12.2.f2, ⟨_, H, Ho29⟩, rfl, HS⟩ (sb rfl) ?_
 rintro k_ E_ w45 ⟨xs30, v31, I32, i33, i34, i35, ⟨oc28, H, Ho29⟩, rfl, HS⟩
 rcases k_ with _ | k46
 · exact no_ H
 replace H : sDRM.b0 l0 t12 (sDRM.l0 l0 t12 k46) k46 xs30 i33 i34 i35 = some oc28 := H
 unfold sDRM.b0 at H
 refine WC.seq fun _ hK47 => ?_
 refine sr_ fun _ hK48 => ?_
 refine mv_ ?_
 refine mv_ ?_
 obtain ⟨t49, ha50, H⟩ := bind_some H
 refine c_ func14 (sB.runs k46 b8 (⟨l0, i34, i35⟩ : S83) A0 c0 6 _ t49.1 t49.2 _ _ HS.b (HS.nodupM 2 rfl) (HS.boundM 2 rfl) (HS.footOM 2 rfl 0 rfl) hc0 (HS.mu 2 rfl) ha50) ?_
 clear ha50
 rintro _ w51 ⟨rfl, hbx_, hrest_, hB1_⟩
 replace HS := HS.calledM 2 rfl hB1_ hrest_ hbx_
 dsimp only [List.set] at HS
 clear hB1_ hrest_ hbx_
 refine ⟨_, rfl, ?_⟩
 refine b_ bin_add64 ?_
 refine b_ bin_lss ?_
 refine mv_ ?_
 rcases eti_ H with ⟨c52, H⟩ | ⟨c52, H⟩
 · refine off_ (c' := false) (dF c52) ?_
   refine WL.know 18 (dF c52) ?_
   refine fast_ ?_
   refine via_ hK48 (wn_ rfl ?_)
   refine WC.exit ?_
   obtain rfl := os H
   exact wv_ iq X37 ⟨xs30, v31, I32, i33, t49.2.f1, t49.2.f2, Ho29, rfl, HS⟩
 refine on_ (dT c52) (mv_ ?_)
 refine on_ (dT c52) (v_ (fa_ underlying33) ?_)
 refine on_ (dT c52) (v_ (lb_ (HS.mu 1 rfl) underlying3 (at33_2 (HS.aN 1 rfl)).int) ?_)
 refine on_ (dT c52) (b_ bin_lss ?_)
 refine v_ (Run.pickT rfl rfl (dT c52) rfl) ?_
 refine dn_ hK48 ?_
 rcases eti_ H with ⟨c53, H⟩ | ⟨c53, H⟩
 · refine wn_ (dF c53) (WC.exit ?_)
   obtain rfl := os H
   exact wv_ iq X37 ⟨xs30, v31, I32, i33, t49.2.f1, t49.2.f2, Ho29, rfl, HS⟩
 refine wy_ (dT c53) (WC.skip (via_ hK47 (WC.seq fun _ hK54 => ?_)))
 refine WC.block (rg_ (mv_ ?_))
 refine mv_ ?_
 refine v_ (Run.loadS (cs := cs15) rfl rfl underlying33 rfl (by rw [el17]; kernel_rfl) (box_part (HS.mu 1 rfl) part_all)) ?_
 obtain ⟨t55, ha56, H⟩ := bind_some H
 refine cs_ HS func15 (sV.runs k46 cs15 t12.1 t55 _ (HS.getN 1 rfl) ha56) (fun w57 HS => ?_)
 clear ha56
 obtain ⟨t58, ha59, H⟩ := bind_some H
 refine c_ func14 (sB.runs k46 b8 (⟨l0, t49.2.f1, t49.2.f2⟩ : S83) A0 c0 t55 _ t58.1 t58.2 _ _ HS.b (HS.nodupM 2 rfl) (HS.boundM 2 rfl) (HS.footOM 2 rfl 0 rfl) hc0 (HS.mu 2 rfl) ha59) ?_
 clear ha59
 rintro _ w60 ⟨rfl, hbx_, hrest_, hB1_⟩
 replace HS := HS.calledM 2 rfl hB1_ hrest_ hbx_
 dsimp only [List.set] at HS
 clear hB1_ hrest_ hbx_
 refine ⟨_, rfl, ?_⟩
 refine WL.val rfl rfl (by decide) (Run.lit1 (z := (vi 0)) (vs := [vi t58.1]) rfl rfl rfl underlying27 (by kernel_rfl) (ble_ rfl) (ble_ rfl)) ?_
 have HS1 := HS.below (below_alloc (Below.refl _ _) (.cells #[vi t58.1] 3))
 obtain ⟨q61, H⟩ := if_some H
 refine WL.append HS1 0 rfl rfl rfl (by decide) rfl (vi 0) 8 underlying27 (by kernel_rfl) rfl (by decide) (by decide) rfl rfl [vi t58.1] rfl (lit_news _ _ _) (oneL rfl) (by omega) ((xs30 ++ [t58.1]).length) (by simp) (fun v62 w63 I64 hI65 HS => ?_)
 dsimp only [List.set] at HS
 replace HS := HS.deriveN (p := (rF kI (xs30 ++ [t58.1]) I64)) (fun W_ hN_ => reps_snoc hI65 hN_.1 (K_int _))
 clear HS1
 refine ad_ hK54 ?_
 refine rg_ (mv_ ?_)
 refine b_ bin_add64 ?_
 refine as_ ?_
 refine WL.done ?_
 exact wr_ k46 iq ⟨(xs30 ++ [t58.1]), v62, I64, (wrap64 (i33 + 1)), t58.2.f1, t58.2.f2, ⟨_, H, Ho29⟩, rfl, (St.pk HS [0] [0, 2] rfl rfl)⟩
def sDP.b0 (l0 : List Int) (rec_ : (List Int) → Int → Int → Int → Option ((List Int) × Int × Int × Int)) (k37 : Nat) (xs22 : List Int) (i25 : Int) (i26 : Int) (i27 : Int) : Option ((List Int) × Int × Int × Int) := (if i25 < 12 then ((sB.g k37 (⟨l0, i26, i27⟩ : S83) 10000).bind fun t42 => (if (xs22.length) < 4294967296 then (rec_ (xs22 ++ [t42.1]) (wrap64 (i25 + 1)) t42.2.f1 t42.2.f2) else none)) else (some (xs22, i25, i26, i27)))
def sDP.l0 (l0 : List Int) : Nat → (List Int) → Int → Int → Int → Option ((List Int) × Int × Int × Int)
 | 0, _, _, _, _ => none
 | k + 1, xs22, i25, i26, i27 => sDP.b0 l0 (sDP.l0 l0 k) k xs22 i25 i26 i27
def sDP.g (k : Nat) (l0 : List Int) : Option (List Int) := ((sN.g k l0).bind fun t3 => ((sB2.g k (⟨l0, t3.f1, t3.f2⟩ : S83)).bind fun t10 => ((sDP.l0 l0 k ([] : List Int) 0 t10.2.f1 t10.2.f2).bind (fun oc35 => (some oc35.1)))))
theorem sDP.runs (k : Nat) (A0 : Option Addr) (c0 : Nat) (l0 : List Int) (r : List Int) (w : World) (hr0 : kU.C w A0 l0.length l0) (hc0 : l0.length ≤ c0) (H : sDP.g k l0 = some r) :
   Calls prog 11 #[.slice A0 l0.length c0] w fun e w' => ∃ (A0_ : Option Addr) (c0_ : Nat), e = .returned (.slice A0_ r.length c0_) ∧ r.length ≤ c0_ ∧ Foot (cF kI A0_ r) w' (fun k_ => w.heap.size ≤ k_) ∧ Below w.heap.size w w' := by
 unfold sDP.g at H
 have HS : St (fun _ => True) w w [] [(cF kU A0 l0)] [] := St.start (foot_cons (foot_C (Kd.heap_int _) hr0) foot_nil)
 refine cw_ (n := 21) func11 fun R_ hR_ => ?_
 refine sr_ fun _ hK1 => ?_
 refine ad_ hK1 ?_
 refine sr_ fun _ hK2 => ?_
 refine mv_ ?_
 obtain ⟨t3, ha4, H⟩ := bind_some H
 refine c_ func12 (sN.runs k A0 c0 l0 t3 _ (HS.getO 0 rfl) hc0 ha4) ?_
 clear ha4
 rintro _ w5 ⟨b6, rfl, hn7, hx8, hb⟩
 replace HS := HS.gotBox hb hn7 hx8
 refine ⟨_, rfl, ?_⟩
 clear hb
 refine ad_ hK2 ?_
 refine sr_ fun _ hK9 => ?_
 refine mv_ ?_
 obtain ⟨t10, ha11, H⟩ := bind_some H
 refine c_ func39 (sB2.runs k b6 (⟨l0, t3.f1, t3.f2⟩ : S83) A0 c0 _ t10.1 t10.2 _ _ HS.b (HS.nodupM 0 rfl) (HS.boundM 0 rfl) (HS.footOM 0 rfl 0 rfl) hc0 (HS.mu 0 rfl) ha11) ?_
 clear ha11
 rintro _ w12 ⟨rfl, hbx_, hrest_, hB1_⟩
 replace HS := HS.calledM 0 rfl hB1_ hrest_ hbx_
 dsimp only [List.set] at HS
 clear hB1_ hrest_ hbx_
 refine ⟨_, rfl, ?_⟩
 refine dn_ hK9 (sr_ fun _ hK13 => ?_)
 refine WL.lit0 HS rfl rfl (by decide) rfl underlying27 (sz := 1) (by kernel_rfl) (fun v14 w15 HS => ?_)
 replace HS := HS.deriveN (p := (rF kI ([] : List Int) [])) (fun _ _ => Reps.none _ _)
 refine ad_ hK13 ?_
 refine WC.seq fun K16 hK16 => ?_
 refine sr_ fun _ hK17 => ?_
 refine ad_ hK17 ?_
 refine WC.block ?_
 obtain ⟨G18, hG19, oc20, H, Ho21⟩ := open_G H
 let J28 := fun (xs22 : List Int) v23 I24 (i25 : Int) (i26 : Int) (i27 : Int) (E_ : Env) (W_ : World) => E_ = [(3, .pointer (some ⟨b6, 0, none⟩)), (4, v23), (5, vi i25)] ∧ St (fun _ => True) w W_ [rowM w.heap.size 3 1 v23 xs22.length I24, boxM b6 #[.slice A0 l0.length c0, vi i26, vi i27] 83] [(cF kU A0 l0)] [(rF kI xs22 I24)]
 have X29 : ∀ E_ W_, (∃ xs22 v23 I24 i25 i26 i27, G18 (xs22, i25, i26, i27) = some r ∧ J28 xs22 v23 I24 i25 i26 i27 E_ W_) → ∀ a, Fits a 21 E_ → K16 a W_ := by
   rintro E_ w30 ⟨xs22, v23, I24, i25, i26, i27, H, rfl, HS⟩
   rw [hG19] at H
   (try dsimp only at H)
   refine hK16 _ _ ?_
   refine sr_ fun _ hK31 => ?_
   refine mv_ ?_
   refine ad_ hK31 ?_
   refine WC.ret ?_
   obtain ⟨A32, c33, rfl⟩ := row_slice (HS.mu 0 rfl)
   have le34 := row_le (HS.mu 0 rfl)
   replace HS := HS.freezeN 0 (p := (cF kI A32 (xs22))) rfl (fun W_ hm_ h_ => row_C (by rfl) hm_ h_.1)
   dsimp only [List.eraseIdx] at HS
   obtain rfl := os H
   exact fin1 Try.f11 rfl rfl hR_ ⟨_, _, rfl, le34, (foot_fresh (HS.footN 0 rfl)), HS.b⟩
 clear hK16
 refine WC.loop (fun k_ E_ W_ => ∃ xs22 v23 I24 i25 i26 i27, (∃ o_, sDP.l0 l0 k_ xs22 i25 i26 i27 = some o_ ∧ G18 o_ = some r) ∧ J28 xs22 v23 I24 i25 i26 i27 E_ W_) k ⟨([] : List Int), v14, ([]), 0, t10.2.f1, t10.2.f2, ⟨_, H, Ho21⟩, rfl, HS⟩ (sb rfl) ?_
 rintro k_ E_ w36 ⟨xs22, v23, I24, i25, i26, i27, ⟨oc20, H, Ho21⟩, rfl, HS⟩
 rcases k_ with _ | k37
 · exact no_ H
 replace H : sDP.b0 l0 (sDP.l0 l0 k37) k37 xs22 i25 i26 i27 = some oc20 := H
 unfold sDP.b0 at H
 refine WC.seq fun _ hK38 => ?_
 refine sr_ fun _ hK39 => ?_
 refine mv_ ?_
 refine b_ bin_lss ?_
 refine dn_ hK39 ?_
 rcases eti_ H with ⟨c40, H⟩ | ⟨c40, H⟩
 · refine wn_ (dF c40) (WC.exit ?_)
   obtain rfl := os H
   exact wv_ iq X29 ⟨xs22, v23, I24, i25, i26, i27, Ho21, rfl, HS⟩
 refine wy_ (dT c40) (WC.skip (via_ hK38 (WC.seq fun _ hK41 => ?_)))
 refine WC.block (rg_ (mv_ ?_))
 refine mv_ ?_
 obtain ⟨t42, ha43, H⟩ := bind_some H
 refine c_ func14 (sB.runs k37 b6 (⟨l0, i26, i27⟩ : S83) A0 c0 10000 _ t42.1 t42.2 _ _ HS.b (HS.nodupM 1 rfl) (HS.boundM 1 rfl) (HS.footOM 1 rfl 0 rfl) hc0 (HS.mu 1 rfl) ha43) ?_
 clear ha43
 rintro _ w44 ⟨rfl, hbx_, hrest_, hB1_⟩
 replace HS := HS.calledM 1 rfl hB1_ hrest_ hbx_
 dsimp only [List.set] at HS
 clear hB1_ hrest_ hbx_
 refine ⟨_, rfl, ?_⟩
 refine WL.val rfl rfl (by decide) (Run.lit1 (z := (vi 0)) (vs := [vi t42.1]) rfl rfl rfl underlying27 (by kernel_rfl) (ble_ rfl) (ble_ rfl)) ?_
 have HS1 := HS.below (below_alloc (Below.refl _ _) (.cells #[vi t42.1] 3))
 obtain ⟨q45, H⟩ := if_some H
 refine WL.append HS1 0 rfl rfl rfl (by decide) rfl (vi 0) 8 underlying27 (by kernel_rfl) rfl (by decide) (by decide) rfl rfl [vi t42.1] rfl (lit_news _ _ _) (oneL rfl) (by omega) ((xs22 ++ [t42.1]).length) (by simp) (fun v46 w47 I48 hI49 HS => ?_)
 dsimp only [List.set] at HS
 replace HS := HS.deriveN (p := (rF kI (xs22 ++ [t42.1]) I48)) (fun W_ hN_ => reps_snoc hI49 hN_.1 (K_int _))
 clear HS1
 refine ad_ hK41 ?_
 refine rg_ (mv_ ?_)
 refine b_ bin_add64 ?_
 refine as_ ?_
 refine WL.done ?_
 exact wr_ k37 iq ⟨(xs22 ++ [t42.1]), v46, I48, (wrap64 (i25 + 1)), t42.2.f1, t42.2.f2, ⟨_, H, Ho21⟩, rfl, (St.pk HS [0] [0] rfl rfl)⟩
def iLO.b0 (x0 : S52) (a1 : Int) (rec_ : Int → Option (Bool ⊕ Int)) (k100 : Nat) (i74 : Int) : Option (Bool ⊕ Int) := (if i74 < (4 : Int) then (if 0 ≤ i74 ∧ i74 < (4 : Int) then ((iwithi.g k100 (⟨(([x0.f1, x0.f2, x0.f3, x0.f4]).getD i74.toNat o29).f0, (([x0.f1, x0.f2, x0.f3, x0.f4]).getD i74.toNat o29).f1, (([x0.f1, x0.f2, x0.f3, x0.f4]).getD i74.toNat o29).f2, (([x0.f1, x0.f2, x0.f3, x0.f4]).getD i74.toNat o29).f3, (([x0.f1, x0.f2, x0.f3, x0.f4]).getD i74.toNat o29).f4⟩ : S29) a1 a1).bind fun t123 => (if t123 = true then (rec_ (wrap64 (i74 + 1))) else (some (Sum.inl false)))) else none) else (some (Sum.inr i74)))
def iLO.l0 (x0 : S52) (a1 : Int) : Nat → Int → Option (Bool ⊕ Int)
 | 0, _ => none
 | k + 1, i74 => iLO.b0 x0 a1 (iLO.l0 x0 a1 k) k i74
def iLO.g (k : Nat) (x0 : S52) (a1 : Int) : Option Bool := ((impl_GainOk.g k x0.f0 a1).bind fun t15 => (if t15 = true then ((impl_GainOk.g k x0.f5 a1).bind fun t23 => (if t23 = true then ((impl_isWidth.f (x0.f6.f1.length : Int)).bind fun t27 => (if t27 = true then ((iLO.l0 x0 a1 k 0).bind (fun oc98 => match oc98 with | .inl r_ => some r_ | .inr i74 => ((iwithi.g k x0.f6 a1 (x0.f6.f1.length : Int)).bind fun t83 => (if t83 = true then ((iwithi.g k x0.f7 (x0.f6.f1.length : Int) a1).bind fun t95 => (some t95)) else (some false))))) else (some false))) else (some false))) else (some false)))
theorem iLO.runs (k : Nat) (cs0 : List Value) (x0 : S52) (a1 : Int) (r : Bool) (w : World) (hk0 : k52.K w x0 cs0) (H : iLO.g k x0 a1 = some r) :
   Calls prog 53 #[.agg cs0.toArray, vi a1] w fun e w' => e = .returned (.bool r) ∧ Below w.heap.size w w' := by
 have el0 : cs0.length = 32 := k52.K_len hk0
 unfold iLO.g at H
 have HS : St (fun _ => True) w w [] [(kF k52 x0 cs0)] [] := St.start (foot_cons (foot_K h52 hk0) foot_nil)
 refine cw_ (n := 61) func53 fun R_ hR_ => ?_
 refine sr_ fun _ hK1 => ?_
 refine bo_ HS (fun b2 w3 hb2 HS => ?_)
 refine ad_ hK1 ?_
 refine sr_ fun _ hK4 => ?_
 refine v_ (fa_ underlying52) ?_
 refine v_ (fa_ underlying29) ?_
 obtain ⟨A5, c6, hc7, le8, HS⟩ := HS.sO 0 rfl at52_23
 refine v_ (lb_ (HS.mu 0 rfl) underlying25 hc7) ?_
 refine ln_ underlying25 ?_
 refine ad_ hK4 ?_
 refine WC.seq fun _ hK9 => ?_
 refine sr_ fun _ hK10 => ?_
 refine v_ (fa_ underlying52) ?_
 obtain ⟨A11, c12, hc13, le14, HS⟩ := HS.sO 1 rfl at52_0
 refine v_ (lb_ (HS.mu 0 rfl) underlying27 hc13) ?_
 refine mv_ ?_
 obtain ⟨t15, ha16, H⟩ := bind_some H
 refine cs_ HS func54 (impl_GainOk.runs k A11 c12 x0.f0 a1 t15 _ (HS.getO 0 rfl) le14 ha16) (fun w17 HS => ?_)
 clear ha16
 refine nt_ ?_
 refine mv_ ?_
 rcases eti_ H with ⟨c18, H⟩ | ⟨c18, H⟩
 · refine off_ (c' := true) (nB (bF c18)) ?_
   refine WL.know 17 (nB (bF c18)) ?_
   refine fast_ ?_
   refine via_ hK10 (wy_ rfl ?_)
   refine sr_ fun _ hK130 => ?_
   refine ad_ hK130 ?_
   obtain rfl := os H
   exact rt1 Try.f53 rfl rfl hR_ ⟨rfl, HS.b⟩
 refine on_ (nB c18) (v_ (fa_ underlying52) ?_)
 refine on_ (nB c18) ?_
 obtain ⟨A19, c20, hc21, le22, HS⟩ := HS.sO 2 rfl at52_21
 refine v_ (lb_ (HS.mu 0 rfl) underlying27 hc21) ?_
 refine on_ (nB c18) (mv_ ?_)
 refine on_ (nB c18) ?_
 obtain ⟨t23, ha24, H⟩ := bind_some H
 refine cs_ HS func54 (impl_GainOk.runs k A19 c20 x0.f5 a1 t23 _ (HS.getO 0 rfl) le22 ha24) (fun w25 HS => ?_)
 clear ha24
 refine on_ (nB c18) (nt_ ?_)
 refine v_ (Run.pickF rfl rfl (nB c18) rfl) ?_
 refine mv_ ?_
 rcases eti_ H with ⟨c26, H⟩ | ⟨c26, H⟩
 · refine off_ (c' := true) (nB (bF c26)) ?_
   refine WL.know 24 (nB (bF c26)) ?_
   refine fast_ ?_
   refine via_ hK10 (wy_ rfl ?_)
   refine sr_ fun _ hK129 => ?_
   refine ad_ hK129 ?_
   obtain rfl := os H
   exact rt1 Try.f53 rfl rfl hR_ ⟨rfl, HS.b⟩
 refine on_ (nB c26) (mv_ ?_)
 refine on_ (nB c26) ?_
 obtain ⟨t27, ha28, H⟩ := bind_some H
 refine cs0_ HS func44 (impl_isWidth.calls (x0.f6.f1.length : Int) t27 _ ha28) (fun w29 HS => ?_)
 clear ha28
 refine on_ (nB c26) (nt_ ?_)
 refine v_ (Run.pickF rfl rfl (nB c26) rfl) ?_
 refine dn_ hK10 ?_
 rcases eti_ H with ⟨c30, H⟩ | ⟨c30, H⟩
 · refine wy_ (nB (bF c30)) (sr_ fun _ hK128 => ?_)
   refine ad_ hK128 ?_
   obtain rfl := os H
   exact rt1 Try.f53 rfl rfl hR_ ⟨rfl, HS.b⟩
 refine wn_ (nB c30) (WC.skip (via_ hK9 (WC.seq fun K31 hK31 => ?_)))
 refine sr_ fun _ hK32 => ?_
 refine v_ (fa_ underlying52) ?_
 obtain ⟨A33, c34, hc35, le36, HS⟩ := HS.sO 3 rfl at52_2
 obtain ⟨A37, c38, hc39, le40, HS⟩ := HS.sO 4 rfl at52_3
 refine v_ (ls_ (HS.mu 0 rfl) underlying29 (part_cons (at52_1 (HS.aO 5 rfl)).int (part_cons hc35 (part_cons hc39 (part_cons (at52_4 (HS.aO 5 rfl)).int (part_cons (at52_5 (HS.aO 5 rfl)).int part_nil)))))) ?_
 refine v_ (fa_ underlying52) ?_
 obtain ⟨A41, c42, hc43, le44, HS⟩ := HS.sO 5 rfl at52_7
 obtain ⟨A45, c46, hc47, le48, HS⟩ := HS.sO 6 rfl at52_8
 refine v_ (ls_ (HS.mu 0 rfl) underlying29 (part_cons (at52_6 (HS.aO 7 rfl)).int (part_cons hc43 (part_cons hc47 (part_cons (at52_9 (HS.aO 7 rfl)).int (part_cons (at52_10 (HS.aO 7 rfl)).int part_nil)))))) ?_
 refine v_ (fa_ underlying52) ?_
 obtain ⟨A49, c50, hc51, le52, HS⟩ := HS.sO 7 rfl at52_12
 obtain ⟨A53, c54, hc55, le56, HS⟩ := HS.sO 8 rfl at52_13
 refine v_ (ls_ (HS.mu 0 rfl) underlying29 (part_cons (at52_11 (HS.aO 9 rfl)).int (part_cons hc51 (part_cons hc55 (part_cons (at52_14 (HS.aO 9 rfl)).int (part_cons (at52_15 (HS.aO 9 rfl)).int part_nil)))))) ?_
 refine v_ (fa_ underlying52) ?_
 obtain ⟨A57, c58, hc59, le60, HS⟩ := HS.sO 9 rfl at52_17
 obtain ⟨A61, c62, hc63, le64, HS⟩ := HS.sO 10 rfl at52_18
 refine v_ (ls_ (HS.mu 0 rfl) underlying29 (part_cons (at52_16 (HS.aO 11 rfl)).int (part_cons hc59 (part_cons hc63 (part_cons (at52_19 (HS.aO 11 rfl)).int (part_cons (at52_20 (HS.aO 11 rfl)).int part_nil)))))) ?_
 refine WL.litN HS (sz := 5) (z := (.agg #[vi 0, sn, sn, vi 0, vi 0])) rfl rfl (by decide) rfl [[vi x0.f1.f0, .slice A33 x0.f1.f1.length c34, .slice A37 x0.f1.f2.length c38, vi x0.f1.f3, vi x0.f1.f4], [vi x0.f2.f0, .slice A41 x0.f2.f1.length c42, .slice A45 x0.f2.f2.length c46, vi x0.f2.f3, vi x0.f2.f4], [vi x0.f3.f0, .slice A49 x0.f3.f1.length c50, .slice A53 x0.f3.f2.length c54, vi x0.f3.f3, vi x0.f3.f4], [vi x0.f4.f0, .slice A57 x0.f4.f1.length c58, .slice A61 x0.f4.f2.length c62, vi x0.f4.f3, vi x0.f4.f4]] ⟨⟨rfl, _, rfl, rfl, rfl⟩, ⟨⟨rfl, _, rfl, rfl, rfl⟩, ⟨⟨rfl, _, rfl, rfl, rfl⟩, ⟨⟨rfl, _, rfl, rfl, rfl⟩, trivial⟩⟩⟩⟩ rfl underlying56 (by kernel_rfl) (by decide) (by decide) (fun v65 w66 HS => ?_)
 replace HS := HS.deriveO (p := (rF k29 [x0.f1, x0.f2, x0.f3, x0.f4] (List.flatten [[vi x0.f1.f0, .slice A33 x0.f1.f1.length c34, .slice A37 x0.f1.f2.length c38, vi x0.f1.f3, vi x0.f1.f4], [vi x0.f2.f0, .slice A41 x0.f2.f1.length c42, .slice A45 x0.f2.f2.length c46, vi x0.f2.f3, vi x0.f2.f4], [vi x0.f3.f0, .slice A49 x0.f3.f1.length c50, .slice A53 x0.f3.f2.length c54, vi x0.f3.f3, vi x0.f3.f4], [vi x0.f4.f0, .slice A57 x0.f4.f1.length c58, .slice A61 x0.f4.f2.length c62, vi x0.f4.f3, vi x0.f4.f4]]))) (fun W_ hO_ hN_ => reps_lit ⟨(k29_mk _ x0.f1 (le36) hO_.2.2.2.2.2.2.2.1 (le40) hO_.2.2.2.2.2.2.1), ⟨(k29_mk _ x0.f2 (le44) hO_.2.2.2.2.2.1 (le48) hO_.2.2.2.2.1), ⟨(k29_mk _ x0.f3 (le52) hO_.2.2.2.1 (le56) hO_.2.2.1), ⟨(k29_mk _ x0.f4 (le60) hO_.2.1 (le64) hO_.1), trivial⟩⟩⟩⟩)
 obtain ⟨A67, c68, rfl⟩ := row_slice (HS.mu 0 rfl)
 refine ln_ underlying56 ?_
 refine mv_ ?_
 refine dn_ hK32 (WC.block ?_)
 have le69 := row_le (HS.mu 0 rfl)
 replace HS := HS.freezeO 0 (p := (fun W => k29.C W A67 4 ([x0.f1, x0.f2, x0.f3, x0.f4]))) rfl (fun W_ hm_ h_ => row_C (by simp) hm_ h_.1)
 dsimp only [List.eraseIdx] at HS
 obtain ⟨G70, hG71, oc72, H, Ho73⟩ := open_G H
 let J75 := fun (i74 : Int) (E_ : Env) (W_ : World) => E_ = [(1, vi a1), (2, .pointer (some ⟨b2, 0, none⟩)), (5, vi (x0.f6.f1.length : Int)), (37, .slice A67 4 c68), (38, vi (4 : Int)), (39, vi i74)] ∧ St (fun _ => True) w W_ [boxM b2 cs0.toArray 52] [(fun W => k29.C W A67 4 ([x0.f1, x0.f2, x0.f3, x0.f4])), (cF kS3 A61 x0.f4.f2), (cF kS3 A57 x0.f4.f1), (cF kS3 A53 x0.f3.f2), (cF kS3 A49 x0.f3.f1), (cF kS3 A45 x0.f2.f2), (cF kS3 A41 x0.f2.f1), (cF kS3 A37 x0.f1.f2), (cF kS3 A33 x0.f1.f1), (cF kI A19 x0.f5), (cF kI A11 x0.f0), (cF kS3 A5 x0.f6.f1), (kF k52 x0 cs0)] []
 have X76 : ∀ E_ W_, (∃ i74, G70 (Sum.inr i74) = some r ∧ J75 i74 E_ W_) → ∀ a, Fits a 61 E_ → K31 a W_ := by
   rintro E_ w77 ⟨i74, H, rfl, HS⟩
   rw [hG71] at H
   (try dsimp only at H)
   refine hK31 _ _ ?_
   refine sr_ fun _ hK78 => ?_
   refine v_ (fa_ underlying52) ?_
   obtain ⟨A79, c80, hc81, le82, HS⟩ := HS.sO 12 rfl at52_24
   refine v_ (ls_ (HS.mu 0 rfl) underlying29 (part_cons (at52_22 (HS.aO 13 rfl)).int (part_cons hc7 (part_cons hc81 (part_cons (at52_25 (HS.aO 13 rfl)).int (part_cons (at52_26 (HS.aO 13 rfl)).int part_nil)))))) ?_
   refine mv_ ?_
   refine mv_ ?_
   obtain ⟨t83, ha84, H⟩ := bind_some H
   refine cs_ HS func55 (iwithi.runs k x0.f6 A5 c6 A79 c80 a1 (x0.f6.f1.length : Int) t83 _ (HS.getO 12 rfl) le8 (HS.getO 0 rfl) le82 ha84) (fun w85 HS => ?_)
   clear ha84
   refine mv_ ?_
   rcases eti_ H with ⟨c86, H⟩ | ⟨c86, H⟩
   · refine off_ (c' := false) (bF c86) ?_
     refine WL.know 54 (bF c86) ?_
     refine fast_ ?_
     refine via_ hK78 ?_
     obtain rfl := os H
     exact rt1 Try.f53 rfl rfl hR_ ⟨rfl, HS.b⟩
   refine on_ c86 ?_
   refine v_ (fa_ underlying52) ?_
   refine on_ c86 ?_
   obtain ⟨A87, c88, hc89, le90, HS⟩ := HS.sO 13 rfl at52_28
   obtain ⟨A91, c92, hc93, le94, HS⟩ := HS.sO 14 rfl at52_29
   refine v_ (ls_ (HS.mu 0 rfl) underlying29 (part_cons (at52_27 (HS.aO 15 rfl)).int (part_cons hc89 (part_cons hc93 (part_cons (at52_30 (HS.aO 15 rfl)).int (part_cons (at52_31 (HS.aO 15 rfl)).int part_nil)))))) ?_
   refine on_ c86 ?_
   refine mv_ ?_
   refine on_ c86 ?_
   refine mv_ ?_
   refine on_ c86 ?_
   obtain ⟨t95, ha96, H⟩ := bind_some H
   refine cs_ HS func55 (iwithi.runs k x0.f7 A87 c88 A91 c92 (x0.f6.f1.length : Int) a1 t95 _ (HS.getO 1 rfl) le90 (HS.getO 0 rfl) le94 ha96) (fun w97 HS => ?_)
   clear ha96
   refine v_ (Run.pickT rfl rfl c86 rfl) ?_
   refine ad_ hK78 ?_
   obtain rfl := os H
   exact rt1 Try.f53 rfl rfl hR_ ⟨rfl, HS.b⟩
 clear hK31
 refine WC.loop (fun k_ E_ W_ => ∃ i74, (∃ o_, iLO.l0 x0 a1 k_ i74 = some o_ ∧ G70 o_ = some r) ∧ J75 i74 E_ W_) k ⟨0, ⟨_, H, Ho73⟩, rfl, (St.pk HS [0, 2, 3, 4, 5, 6, 7, 8, 9, 10, 11, 12, 13] [] rfl rfl)⟩ (sb rfl) ?_
 rintro k_ E_ w99 ⟨i74, ⟨oc72, H, Ho73⟩, rfl, HS⟩
 rcases k_ with _ | k100
 · exact no_ H
 replace H : iLO.b0 x0 a1 (iLO.l0 x0 a1 k100) k100 i74 = some oc72 := H
 unfold iLO.b0 at H
 refine sr_ fun _ hK101 => ?_
 refine b_ bin_lss ?_
 refine dn_ hK101 (WC.seq fun _ hK102 => ?_)
 rcases eti_ H with ⟨c103, H⟩ | ⟨c103, H⟩
 · refine wn_ (dF c103) (WC.exit ?_)
   obtain rfl := os H
   exact wv_ iq X76 ⟨i74, Ho73, rfl, HS⟩
 refine wy_ (dT c103) (WC.skip (via_ hK102 (WC.seq fun _ hK104 => ?_)))
 refine WC.block (sr_ fun _ hK105 => ?_)
 obtain ⟨⟨q106, q107⟩, H⟩ := if_some H
 obtain ⟨ad108, rfl⟩ := C_open (HS.getO 0 rfl) (by omega)
 refine v_ (ia_ underlying56 5 q106 q107) ?_
 obtain ⟨e109, el110, HS⟩ := HS.elO 0 rfl (by decide) o29 i74 q106 q107
 obtain ⟨A111, c112, hc113, le114, HS⟩ := HS.eO 0 rfl at29_1
 obtain ⟨A115, c116, hc117, le118, HS⟩ := HS.eO 1 rfl at29_2
 refine v_ (Run.loadS (cs := [vi ((([x0.f1, x0.f2, x0.f3, x0.f4]).getD i74.toNat o29).f0), .slice A111 ((([x0.f1, x0.f2, x0.f3, x0.f4]).getD i74.toNat o29).f1.length) c112, .slice A115 ((([x0.f1, x0.f2, x0.f3, x0.f4]).getD i74.toNat o29).f2.length) c116, vi ((([x0.f1, x0.f2, x0.f3, x0.f4]).getD i74.toNat o29).f3), vi ((([x0.f1, x0.f2, x0.f3, x0.f4]).getD i74.toNat o29).f4)]) rfl rfl underlying29 rfl (by kernel_rfl) (cells_part (HS.getO 2 rfl).2 (part_cons (at29_0 (AtK.whole (HS.getO 2 rfl).1)).int (part_cons hc113 (part_cons hc117 (part_cons (at29_3 (AtK.whole (HS.getO 2 rfl).1)).int (part_cons (at29_4 (AtK.whole (HS.getO 2 rfl).1)).int part_nil))))))) ?_
 refine WL.alloc HS (v := .agg #[vi 0, sn, sn, vi 0, vi 0]) (cs := #[vi 0, sn, sn, vi 0, vi 0]) rfl rfl (by decide) rfl (by kernel_rfl) rfl (fun b119 w120 hb119 HS => ?_)
 refine WL.storeW HS 0 rfl rfl rfl rfl rfl rfl (oneL rfl) (by kernel_rfl) rfl (fun w121 HS => ?_)
 dsimp only [List.set] at HS
 refine dn_ hK105 (sr_ fun _ hK122 => ?_)
 refine v_ (ls_ (HS.mu 0 rfl) underlying29 part_all) ?_
 refine mv_ ?_
 refine mv_ ?_
 obtain ⟨t123, ha124, H⟩ := bind_some H
 refine cs_ HS func55 (iwithi.runs k100 (⟨(([x0.f1, x0.f2, x0.f3, x0.f4]).getD i74.toNat o29).f0, (([x0.f1, x0.f2, x0.f3, x0.f4]).getD i74.toNat o29).f1, (([x0.f1, x0.f2, x0.f3, x0.f4]).getD i74.toNat o29).f2, (([x0.f1, x0.f2, x0.f3, x0.f4]).getD i74.toNat o29).f3, (([x0.f1, x0.f2, x0.f3, x0.f4]).getD i74.toNat o29).f4⟩ : S29) A111 c112 A115 c116 a1 a1 t123 _ (HS.getO 1 rfl) le114 (HS.getO 0 rfl) le118 ha124) (fun w125 HS => ?_)
 clear ha124
 refine nt_ ?_
 refine dn_ hK122 ?_
 rcases ite_ H with ⟨c126, H⟩ | ⟨c126, H⟩
 · refine wn_ (nB c126) (WC.skip (via_ hK104 (rg_ (b_ bin_add64 ?_))))
   refine mv_ ?_
   refine WL.done ?_
   exact wr_ k100 iq ⟨(wrap64 (i74 + 1)), ⟨_, H, Ho73⟩, rfl, (St.pk (St.forget HS 0 rfl) [3, 4, 5, 6, 7, 8, 9, 10, 11, 12, 13, 14, 15] [] rfl rfl)⟩
 refine wy_ (nB (bF c126)) (sr_ fun _ hK127 => ?_)
 refine ad_ hK127 ?_
 refine WC.ret ?_
 obtain rfl := os H
 rw [hG71] at Ho73
 replace H : some _ = some _ := Ho73
 obtain rfl := os H
 exact fin1 Try.f53 rfl rfl hR_ ⟨rfl, HS.b⟩
def impl_Vocab.g (k : Nat) (x0 : S33) : Option Int := (some (wrap64 (256 + (x0.f3.length : Int))))
theorem impl_Vocab.runs (k : Nat) (cs0 : List Value) (x0 : S33) (r : Int) (w : World) (hk0 : k33.K w x0 cs0) (H : impl_Vocab.g k x0 = some r) :
   Calls prog 47 #[.agg cs0.toArray] w fun e w' => e = .returned (vi r) ∧ Below w.heap.size w w' := by
 have el0 : cs0.length = 14 := k33.K_len hk0
 unfold impl_Vocab.g at H
 have HS : St (fun _ => True) w w [] [(kF k33 x0 cs0)] [] := St.start (foot_cons (foot_K h33 hk0) foot_nil)
 refine cw_ (n := 7) func47 fun R_ hR_ => ?_
 refine sr_ fun _ hK1 => ?_
 refine bo_ HS (fun b2 w3 hb2 HS => ?_)
 refine ad_ hK1 ?_
 refine sr_ fun _ hK4 => ?_
 refine v_ (fa_ underlying33) ?_
 obtain ⟨A5, c6, hc7, le8, HS⟩ := HS.sO 0 rfl at33_3
 refine v_ (lb_ (HS.mu 0 rfl) underlying24 hc7) ?_
 refine ln_ underlying24 ?_
 refine b_ bin_add64 ?_
 refine ad_ hK4 ?_
 obtain rfl := os H
 exact rt1 Try.f47 rfl rfl hR_ ⟨rfl, HS.b⟩
def impl_sizesOf_1.g (k : Nat) (a0 : Int) (l1 : List Int) : Option Int := (if a0 < 256 then (some 1) else (if 0 ≤ (wrap64 (a0 - 256)) ∧ (wrap64 (a0 - 256)) < (l1.length : Int) then (some (l1.getD (wrap64 (a0 - 256)).toNat 0)) else none))
theorem impl_sizesOf_1.runs (k : Nat) (a0 : Int) (b1 : Nat) (A1 : Option Addr) (c1 : Nat) (l1 : List Int) (r : Int) (w : World) (hr1 : kI.C w A1 l1.length l1) (hc1 : l1.length ≤ c1) (hb1 : w.heap[b1]? = some (.cells #[.slice A1 l1.length c1] 27 (0, 0))) (H : impl_sizesOf_1.g k a0 l1 = some r) :
   Calls prog 92 #[vi a0, .pointer (some ⟨b1, 0, none⟩)] w fun e w' => e = .returned (vi r) ∧ Below w.heap.size w w' := by
 unfold impl_sizesOf_1.g at H
 have HS : St (fun _ => True) w w [] [(cF kI A1 l1), (fun W => W.heap[b1]? = some (.cells #[.slice A1 l1.length c1] 27 (0, 0)))] [] := St.start (foot_cons (foot_C (Kd.heap_int _) hr1) (foot_cons (foot_rob hb1) foot_nil))
 refine cw_ (n := 11) func92 fun R_ hR_ => ?_
 refine sr_ fun _ hK1 => ?_
 refine ad_ hK1 ?_
 refine WC.seq fun _ hK2 => ?_
 refine sr_ fun _ hK3 => ?_
 refine mv_ ?_
 refine b_ bin_lss ?_
 refine dn_ hK3 ?_
 rcases ite_ H with ⟨c4, H⟩ | ⟨c4, H⟩
 · refine wy_ (dT c4) (sr_ fun _ hK5 => ?_)
   refine ad_ hK5 ?_
   obtain rfl := os H
   exact rt1 Try.f92 rfl rfl hR_ ⟨rfl, HS.b⟩
 refine wn_ (dF c4) (WC.skip (via_ hK2 (sr_ fun _ hK6 => ?_)))
 refine v_ (lb_ (HS.getO 1 rfl) underlying27 rfl) ?_
 refine mv_ ?_
 refine b_ bin_sub64 ?_
 obtain ⟨⟨q7, q8⟩, H⟩ := if_some H
 obtain ⟨ad9, rfl⟩ := C_open (HS.getO 0 rfl) (by omega)
 refine v_ (ia_ underlying27 1 q7 q8) ?_
 refine v_ (Run.load rfl rfl underlying3 rfl (int_cell (HS.getO 0 rfl) (wrap64 (a0 - 256)) q7 q8)) ?_
 refine ad_ hK6 ?_
 obtain rfl := os H
 exact rt1 Try.f92 rfl rfl hR_ ⟨rfl, HS.b⟩
def impl_sizesOf.b0 (l0 : List S54) (rec_ : Int → (List Int) → Option (((List Int) × Bool) ⊕ (Int × (List Int)))) (k30 : Nat) (i17 : Int) (xs18 : List Int) : Option (((List Int) × Bool) ⊕ (Int × (List Int))) := (if i17 < (l0.length : Int) then (if 0 ≤ i17 ∧ i17 < (l0.length : Int) then ((impl_isToken.f ((l0.getD i17.toNat o54).f0) i17).bind fun t46 => (if t46 = true then ((impl_isToken.f ((l0.getD i17.toNat o54).f1) i17).bind fun t50 => (if t50 = true then ((impl_sizesOf_1.g k30 ((l0.getD i17.toNat o54).f0) xs18).bind fun t58 => ((impl_sizesOf_1.g k30 ((l0.getD i17.toNat o54).f1) xs18).bind fun t61 => (if (wrap64 (t58 + t61)) > 64 then (some (Sum.inl ([], false))) else (if (xs18.length) < 4294967296 then (rec_ (wrap64 (i17 + 1)) (xs18 ++ [wrap64 (t58 + t61)])) else none)))) else (some (Sum.inl ([], false))))) else (some (Sum.inl ([], false))))) else none) else (some (Sum.inr (i17, xs18))))
def impl_sizesOf.l0 (l0 : List S54) : Nat → Int → (List Int) → Option (((List Int) × Bool) ⊕ (Int × (List Int)))
 | 0, _, _ => none
 | k + 1, i17, xs18 => impl_sizesOf.b0 l0 (impl_sizesOf.l0 l0 k) k i17 xs18
def impl_sizesOf.g (k : Nat) (l0 : List S54) : Option ((List Int) × Bool) := ((impl_sizesOf.l0 l0 k 0 ([] : List Int)).bind (fun oc28 => match oc28 with | .inl r_ => some r_ | .inr ⟨i17, xs18⟩ => (some (xs18, true))))
theorem impl_sizesOf.runs (k : Nat) (A0 : Option Addr) (c0 : Nat) (l0 : List S54) (r1 : List Int) (r2 : Bool) (w : World) (hr0 : k54.C w A0 l0.length l0) (hc0 : l0.length ≤ c0) (H : impl_sizesOf.g k l0 = some (r1, r2)) :
   Calls prog 75 #[.slice A0 l0.length c0] w fun e w' => ∃ (A0_ : Option Addr) (c0_ : Nat), e = .returned (.tuple #[.slice A0_ r1.length c0_, .bool r2]) ∧ r1.length ≤ c0_ ∧ Foot (cF kI A0_ r1) w' (fun k_ => w.heap.size ≤ k_) ∧ Below w.heap.size w w' := by
 unfold impl_sizesOf.g at H
 have HS : St (fun _ => True) w w [] [(cF k54 A0 l0)] [] := St.start (foot_cons (foot_C h54 hr0) foot_nil)
 refine cw_ (n := 47) func75 fun R_ hR_ => ?_
 refine sr_ fun _ hK1 => ?_
 refine as_ ?_
 refine ad_ hK1 ?_
 refine sr_ fun _ hK2 => ?_
 refine WL.lit0 HS rfl rfl (by decide) rfl underlying27 (sz := 1) (by kernel_rfl) (fun v3 w4 HS => ?_)
 replace HS := HS.deriveN (p := (rF kI ([] : List Int) [])) (fun _ _ => Reps.none _ _)
 refine WL.alloc HS (v := sn) (cs := #[sn]) rfl rfl (by decide) rfl (by kernel_rfl) rfl (fun b5 w6 hb5 HS => ?_)
 obtain ⟨A8, c9, rfl⟩ := row_slice (HS.mu 1 rfl)
 refine WL.store HS 0 rfl rfl rfl rfl rfl rfl rfl (by kernel_rfl) (ble_ rfl) (cs' := #[(.slice A8 0 c9)]) (by kernel_rfl) (fun w7 HS => ?_)
 dsimp only [List.set] at HS
 refine dn_ hK2 (sr_ fun _ hK10 => ?_)
 refine v_ (Run.makeFunc (cap := [.pointer (some ⟨b5, 0, none⟩)]) rfl rfl) ?_
 refine ad_ hK10 ?_
 refine WC.seq fun K11 hK11 => ?_
 refine sr_ fun _ hK12 => ?_
 refine mv_ ?_
 refine ln_ underlying24 ?_
 refine mv_ ?_
 refine dn_ hK12 (WC.block ?_)
 obtain ⟨G13, hG14, oc15, H, Ho16⟩ := open_G H
 let J21 := fun (i17 : Int) (xs18 : List Int) v19 I20 (E_ : Env) (W_ : World) => E_ = [(4, .pointer (some ⟨b5, 0, none⟩)), (5, .func (.func 92) #[] #[.pointer (some ⟨b5, 0, none⟩)]), (11, .slice A0 l0.length c0), (12, vi (l0.length : Int)), (13, vi i17)] ∧ St (fun _ => True) w W_ [boxM b5 #[v19] 27, rowM w.heap.size 3 1 v19 xs18.length I20] [(cF k54 A0 l0)] [(rF kI xs18 I20)]
 have X22 : ∀ E_ W_, (∃ i17 xs18 v19 I20, G13 (Sum.inr (i17, xs18)) = some (r1, r2) ∧ J21 i17 xs18 v19 I20 E_ W_) → ∀ a, Fits a 47 E_ → K11 a W_ := by
   rintro E_ w23 ⟨i17, xs18, v19, I20, H, rfl, HS⟩
   rw [hG14] at H
   (try dsimp only at H)
   refine hK11 _ _ ?_
   refine sr_ fun _ hK24 => ?_
   obtain ⟨A25, c26, rfl⟩ := row_slice (HS.mu 1 rfl)
   refine v_ (lb_ (HS.mu 0 rfl) underlying27 rfl) ?_
   refine as_ ?_
   refine ad_ hK24 ?_
   refine WC.ret ?_
   have le27 := row_le (HS.mu 1 rfl)
   replace HS := HS.freezeN 1 (p := (cF kI A25 (xs18))) rfl (fun W_ hm_ h_ => row_C (by rfl) hm_ h_.1)
   dsimp only [List.eraseIdx] at HS
   obtain ⟨rfl, rfl⟩ := Prod.mk.inj (os H)
   exact fin2 Try.f75 rfl rfl rfl hR_ ⟨_, _, rfl, le27, (foot_fresh (HS.footN 0 rfl)), HS.b⟩
 clear hK11
 refine WC.loop (fun k_ E_ W_ => ∃ i17 xs18 v19 I20, (∃ o_, impl_sizesOf.l0 l0 k_ i17 xs18 = some o_ ∧ G13 o_ = some (r1, r2)) ∧ J21 i17 xs18 v19 I20 E_ W_) k ⟨0, ([] : List Int), (.slice A8 0 c9), ([]), ⟨_, H, Ho16⟩, rfl, HS⟩ (sb rfl) ?_
 rintro k_ E_ w29 ⟨i17, xs18, v19, I20, ⟨oc15, H, Ho16⟩, rfl, HS⟩
 rcases k_ with _ | k30
 · exact no_ H
 replace H : impl_sizesOf.b0 l0 (impl_sizesOf.l0 l0 k30) k30 i17 xs18 = some oc15 := H
 unfold impl_sizesOf.b0 at H
 refine sr_ fun _ hK31 => ?_
 refine b_ bin_lss ?_
 refine dn_ hK31 (WC.seq fun _ hK32 => ?_)
 rcases eti_ H with ⟨c33, H⟩ | ⟨c33, H⟩
 · refine wn_ (dF c33) (WC.exit ?_)
   obtain rfl := os H
   exact wv_ iq X22 ⟨i17, xs18, v19, I20, Ho16, rfl, HS⟩
 refine wy_ (dT c33) (WC.skip (via_ hK32 (WC.seq fun _ hK34 => ?_)))
 refine WC.block (sr_ fun _ hK35 => ?_)
 refine mv_ ?_
 obtain ⟨⟨q36, q37⟩, H⟩ := if_some H
 obtain ⟨ad38, rfl⟩ := C_open (HS.getO 0 rfl) (by omega)
 refine v_ (ia_ underlying24 2 q36 q37) ?_
 obtain ⟨e39, el40, HS⟩ := HS.elO 0 rfl (by decide) o54 i17 q36 q37
 refine v_ (Run.loadS (cs := [vi ((l0.getD i17.toNat o54).f0), vi ((l0.getD i17.toNat o54).f1)]) rfl rfl underlying54 rfl (by kernel_rfl) (cells_part (HS.getO 0 rfl).2 (part_cons (at54_0 (AtK.whole (HS.getO 0 rfl).1)).int (part_cons (at54_1 (AtK.whole (HS.getO 0 rfl).1)).int part_nil)))) ?_
 refine WL.alloc HS (v := .agg #[vi 0, vi 0]) (cs := #[vi 0, vi 0]) rfl rfl (by decide) rfl (by kernel_rfl) rfl (fun b41 w42 hb41 HS => ?_)
 refine as_ ?_
 refine WL.storeW HS 0 rfl rfl rfl rfl rfl rfl (oneL rfl) (by kernel_rfl) rfl (fun w43 HS => ?_)
 dsimp only [List.set] at HS
 refine dn_ hK35 (WC.seq fun _ hK44 => ?_)
 refine sr_ fun _ hK45 => ?_
 refine v_ (fa_ underlying54) ?_
 refine v_ (lb_ (HS.mu 0 rfl) underlying3 rfl) ?_
 refine mv_ ?_
 obtain ⟨t46, ha47, H⟩ := bind_some H
 refine cs0_ HS func93 (impl_isToken.calls ((l0.getD i17.toNat o54).f0) i17 t46 _ ha47) (fun w48 HS => ?_)
 clear ha47
 refine nt_ ?_
 refine mv_ ?_
 rcases eti_ H with ⟨c49, H⟩ | ⟨c49, H⟩
 · refine off_ (c' := true) (nB (bF c49)) ?_
   refine WL.know 23 (nB (bF c49)) ?_
   refine fast_ ?_
   refine via_ hK45 (wy_ rfl ?_)
   refine sr_ fun _ hK77 => ?_
   refine as_ ?_
   refine ad_ hK77 ?_
   refine WC.ret ?_
   obtain rfl := os H
   rw [hG14] at Ho16
   replace H : some _ = some _ := Ho16
   obtain ⟨rfl, rfl⟩ := Prod.mk.inj (os H)
   exact fin2 Try.f75 rfl rfl rfl hR_ ⟨_, _, rfl, (Nat.le_refl _), (fun W_ _ => Kd.C_nil _ _), HS.b⟩
 refine on_ (nB c49) (v_ (fa_ underlying54) ?_)
 refine on_ (nB c49) (v_ (lb_ (HS.mu 0 rfl) underlying3 rfl) ?_)
 refine on_ (nB c49) (mv_ ?_)
 refine on_ (nB c49) ?_
 obtain ⟨t50, ha51, H⟩ := bind_some H
 refine cs0_ HS func93 (impl_isToken.calls ((l0.getD i17.toNat o54).f1) i17 t50 _ ha51) (fun w52 HS => ?_)
 clear ha51
 refine on_ (nB c49) (nt_ ?_)
 refine v_ (Run.pickF rfl rfl (nB c49) rfl) ?_
 refine dn_ hK45 ?_
 rcases eti_ H with ⟨c53, H⟩ | ⟨c53, H⟩
 · refine wy_ (nB (bF c53)) (sr_ fun _ hK76 => ?_)
   refine as_ ?_
   refine ad_ hK76 ?_
   refine WC.ret ?_
   obtain rfl := os H
   rw [hG14] at Ho16
   replace H : some _ = some _ := Ho16
   obtain ⟨rfl, rfl⟩ := Prod.mk.inj (os H)
   exact fin2 Try.f75 rfl rfl rfl hR_ ⟨_, _, rfl, (Nat.le_refl _), (fun W_ _ => Kd.C_nil _ _), HS.b⟩
 refine wn_ (nB c53) (WC.skip (via_ hK44 (WC.seq fun _ hK54 => ?_)))
 refine WC.drawS HS [] rfl rfl (fun w55 HS => ?_)
 have HB := Below.refl w55.heap.size w55
 have HSW := HS
 refine dm_ 0 ?_
 refine df_ 1 underlying54 ?_
 refine dm_ 4 ?_
 refine df_ 5 underlying54 ?_
 refine bl_ 2 HS (Below.refl _ _) 0 underlying3 rfl ?_
 refine bl_ 6 HS (Below.refl _ _) 0 underlying3 rfl ?_
 obtain ⟨A56, c57, rfl⟩ := row_slice (HS.mu 2 rfl)
 obtain ⟨t58, ha59, H⟩ := bind_some H
 refine dcv_ (args := [vi ((l0.getD i17.toNat o54).f0)]) (cap := [.pointer (some ⟨b5, 0, none⟩)]) 3 (w_none rfl) func92 (impl_sizesOf_1.runs k30 ((l0.getD i17.toNat o54).f0) b5 A56 c57 xs18 t58 _ (row_C rfl (HS.mu 2 rfl) (HS.getN 0 rfl)) (row_le (HS.mu 2 rfl)) (HS.mu 1 rfl) ha59) ?_
 clear ha59
 rintro _ w60 ⟨rfl, hb⟩
 replace HB := HB.trans (hb.mono HB.size)
 replace HS := HS.below hb
 refine ⟨HB, _, rfl, ?_⟩
 clear hb
 obtain ⟨t61, ha62, H⟩ := bind_some H
 refine dcv_ (args := [vi ((l0.getD i17.toNat o54).f1)]) (cap := [.pointer (some ⟨b5, 0, none⟩)]) 7 (w_none rfl) func92 (impl_sizesOf_1.runs k30 ((l0.getD i17.toNat o54).f1) b5 A56 c57 xs18 t61 _ (row_C rfl (HS.mu 2 rfl) (HS.getN 0 rfl)) (row_le (HS.mu 2 rfl)) (HS.mu 1 rfl) ha62) ?_
 clear ha62
 rintro _ w63 ⟨rfl, hb⟩
 replace HB := HB.trans (hb.mono HB.size)
 replace HS := HS.below hb
 refine ⟨HB, _, rfl, ?_⟩
 clear hb
 refine dp_ 8 (fun _ => Run.bin rfl rfl rfl bin_add64) ?_
 refine dp_ 9 (fun _ => Run.assign rfl rfl) ?_
 refine dd_ ?_
 clear HB HSW
 refine via_ hK54 (WC.seq fun _ hK64 => ?_)
 refine sr_ fun _ hK65 => ?_
 refine mv_ ?_
 refine b_ bin_gtr ?_
 refine dn_ hK65 ?_
 rcases ite_ H with ⟨c66, H⟩ | ⟨c66, H⟩
 · refine wy_ (dT c66) (sr_ fun _ hK67 => ?_)
   refine as_ ?_
   refine ad_ hK67 ?_
   refine WC.ret ?_
   obtain rfl := os H
   rw [hG14] at Ho16
   replace H : some _ = some _ := Ho16
   obtain ⟨rfl, rfl⟩ := Prod.mk.inj (os H)
   exact fin2 Try.f75 rfl rfl rfl hR_ ⟨_, _, rfl, (Nat.le_refl _), (fun W_ _ => Kd.C_nil _ _), HS.b⟩
 refine wn_ (dF c66) (WC.skip (via_ hK64 (rg_ (v_ (lb_ (HS.mu 1 rfl) underlying27 rfl) ?_))))
 refine mv_ ?_
 refine WL.val rfl rfl (by decide) (Run.lit1 (z := (vi 0)) (vs := [vi (wrap64 (t58 + t61))]) rfl rfl rfl underlying27 (by kernel_rfl) (ble_ rfl) (ble_ rfl)) ?_
 have HS1 := HS.below (below_alloc (Below.refl _ _) (.cells #[vi (wrap64 (t58 + t61))] 3))
 obtain ⟨q68, H⟩ := if_some H
 refine WL.append HS1 2 rfl rfl rfl (by decide) rfl (vi 0) 8 underlying27 (by kernel_rfl) rfl (by decide) (by decide) rfl rfl [vi (wrap64 (t58 + t61))] rfl (lit_news _ _ _) (oneL rfl) (by omega) ((xs18 ++ [wrap64 (t58 + t61)]).length) (by simp) (fun v69 w70 I71 hI72 HS => ?_)
 dsimp only [List.set] at HS
 replace HS := HS.deriveN (p := (rF kI (xs18 ++ [wrap64 (t58 + t61)]) I71)) (fun W_ hN_ => reps_snoc hI72 hN_.1 (K_int _))
 clear HS1
 obtain ⟨A74, c75, rfl⟩ := row_slice (HS.mu 2 rfl)
 refine WL.store HS 1 rfl rfl rfl rfl rfl rfl rfl (by kernel_rfl) (ble_ rfl) (cs' := #[(.slice A74 ((xs18 ++ [wrap64 (t58 + t61)]).length) c75)]) (by kernel_rfl) (fun w73 HS => ?_)
 dsimp only [List.set] at HS
 refine dn_ hK34 (rg_ (b_ bin_add64 ?_))
 refine mv_ ?_
 refine WL.done ?_
 exact wr_ k30 iq ⟨(wrap64 (i17 + 1)), (xs18 ++ [wrap64 (t58 + t61)]), (.slice A74 ((xs18 ++ [wrap64 (t58 + t61)]).length) c75), I71, ⟨_, H, Ho16⟩, rfl, (St.pk (St.forget HS 0 rfl) [1] [0] rfl rfl)⟩
def iMO1.b0 (l0 : List S54) (rec_ : Int → Option (Bool ⊕ Int)) (k27 : Nat) (i12 : Int) : Option (Bool ⊕ Int) := (if i12 < (l0.length : Int) then (if 0 ≤ i12 ∧ i12 < (l0.length : Int) then (if 0 ≤ i12 ∧ i12 ≤ (l0.length : Int) then ((sM5.g k27 (l0.take i12.toNat) (⟨(l0.getD i12.toNat o54).f0, (l0.getD i12.toNat o54).f1⟩ : S54)).bind fun t50 => (if t50 = true then (some (Sum.inl false)) else (rec_ (wrap64 (i12 + 1))))) else none) else none) else (some (Sum.inr i12)))
def iMO1.l0 (l0 : List S54) : Nat → Int → Option (Bool ⊕ Int)
 | 0, _ => none
 | k + 1, i12 => iMO1.b0 l0 (iMO1.l0 l0 k) k i12
def iMO1.g (k : Nat) (l0 : List S54) : Option Bool := (if (l0.length : Int) > 16 then (some false) else ((iMO1.l0 l0 k 0).bind (fun oc25 => match oc25 with | .inl r_ => some r_ | .inr i12 => ((impl_sizesOf.g k l0).bind fun t17 => (some t17.2)))))
theorem iMO1.runs (k : Nat) (A0 : Option Addr) (c0 : Nat) (l0 : List S54) (r : Bool) (w : World) (hr0 : k54.C w A0 l0.length l0) (hc0 : l0.length ≤ c0) (H : iMO1.g k l0 = some r) :
   Calls prog 46 #[.slice A0 l0.length c0] w fun e w' => e = .returned (.bool r) ∧ Below w.heap.size w w' := by
 unfold iMO1.g at H
 have HS : St (fun _ => True) w w [] [(cF k54 A0 l0)] [] := St.start (foot_cons (foot_C h54 hr0) foot_nil)
 refine cw_ (n := 29) func46 fun R_ hR_ => ?_
 refine sr_ fun _ hK1 => ?_
 refine ad_ hK1 ?_
 refine WC.seq fun _ hK2 => ?_
 refine sr_ fun _ hK3 => ?_
 refine mv_ ?_
 refine ln_ underlying24 ?_
 refine b_ bin_gtr ?_
 refine dn_ hK3 ?_
 rcases ite_ H with ⟨c4, H⟩ | ⟨c4, H⟩
 · refine wy_ (dT c4) (sr_ fun _ hK5 => ?_)
   refine ad_ hK5 ?_
   obtain rfl := os H
   exact rt1 Try.f46 rfl rfl hR_ ⟨rfl, HS.b⟩
 refine wn_ (dF c4) (WC.skip (via_ hK2 (WC.seq fun K6 hK6 => ?_)))
 refine sr_ fun _ hK7 => ?_
 refine mv_ ?_
 refine ln_ underlying24 ?_
 refine mv_ ?_
 refine dn_ hK7 (WC.block ?_)
 obtain ⟨G8, hG9, oc10, H, Ho11⟩ := open_G H
 let J13 := fun (i12 : Int) (E_ : Env) (W_ : World) => E_ = [(0, .slice A0 l0.length c0), (10, .slice A0 l0.length c0), (11, vi (l0.length : Int)), (12, vi i12)] ∧ St (fun _ => True) w W_ [] [(cF k54 A0 l0)] []
 have X14 : ∀ E_ W_, (∃ i12, G8 (Sum.inr i12) = some r ∧ J13 i12 E_ W_) → ∀ a, Fits a 29 E_ → K6 a W_ := by
   rintro E_ w15 ⟨i12, H, rfl, HS⟩
   rw [hG9] at H
   (try dsimp only at H)
   refine hK6 _ _ ?_
   refine sr_ fun _ hK16 => ?_
   refine mv_ ?_
   obtain ⟨t17, ha18, H⟩ := bind_some H
   refine c_ func75 (impl_sizesOf.runs k A0 c0 l0 t17.1 t17.2 _ (HS.getO 0 rfl) hc0 ha18) ?_
   clear ha18
   rintro _ w19 ⟨A20, c21, rfl, le22, hf23, hb⟩
   replace HS := HS.newNs hb (foot_cons hf23 foot_nil)
   refine ⟨_, rfl, ?_⟩
   clear hb
   refine mv_ ?_
   refine v_ (Run.extract rfl rfl rfl) ?_
   refine v_ (Run.extract rfl rfl rfl) ?_
   refine as_ ?_
   refine ad_ hK16 ?_
   refine sr_ fun _ hK24 => ?_
   refine mv_ ?_
   refine ad_ hK24 ?_
   obtain rfl := os H
   exact rt1 Try.f46 rfl rfl hR_ ⟨rfl, HS.b⟩
 clear hK6
 refine WC.loop (fun k_ E_ W_ => ∃ i12, (∃ o_, iMO1.l0 l0 k_ i12 = some o_ ∧ G8 o_ = some r) ∧ J13 i12 E_ W_) k ⟨0, ⟨_, H, Ho11⟩, rfl, HS⟩ (sb rfl) ?_
 rintro k_ E_ w26 ⟨i12, ⟨oc10, H, Ho11⟩, rfl, HS⟩
 rcases k_ with _ | k27
 · exact no_ H
 replace H : iMO1.b0 l0 (iMO1.l0 l0 k27) k27 i12 = some oc10 := H
 unfold iMO1.b0 at H
 refine sr_ fun _ hK28 => ?_
 refine b_ bin_lss ?_
 refine dn_ hK28 (WC.seq fun _ hK29 => ?_)
 rcases eti_ H with ⟨c30, H⟩ | ⟨c30, H⟩
 · refine wn_ (dF c30) (WC.exit ?_)
   obtain rfl := os H
   exact wv_ iq X14 ⟨i12, Ho11, rfl, HS⟩
 refine wy_ (dT c30) (WC.skip (via_ hK29 (WC.seq fun _ hK31 => ?_)))
 refine WC.block (sr_ fun _ hK32 => ?_)
 refine mv_ ?_
 obtain ⟨⟨q33, q34⟩, H⟩ := if_some H
 obtain ⟨ad35, rfl⟩ := C_open (HS.getO 0 rfl) (by omega)
 refine v_ (ia_ underlying24 2 q33 q34) ?_
 obtain ⟨e36, el37, HS⟩ := HS.elO 0 rfl (by decide) o54 i12 q33 q34
 refine v_ (Run.loadS (cs := [vi ((l0.getD i12.toNat o54).f0), vi ((l0.getD i12.toNat o54).f1)]) rfl rfl underlying54 rfl (by kernel_rfl) (cells_part (HS.getO 0 rfl).2 (part_cons (at54_0 (AtK.whole (HS.getO 0 rfl).1)).int (part_cons (at54_1 (AtK.whole (HS.getO 0 rfl).1)).int part_nil)))) ?_
 refine WL.alloc HS (v := .agg #[vi 0, vi 0]) (cs := #[vi 0, vi 0]) rfl rfl (by decide) rfl (by kernel_rfl) rfl (fun b38 w39 hb38 HS => ?_)
 refine as_ ?_
 refine WL.storeW HS 0 rfl rfl rfl rfl rfl rfl (oneL rfl) (by kernel_rfl) rfl (fun w40 HS => ?_)
 dsimp only [List.set] at HS
 refine dn_ hK32 (WC.seq fun _ hK41 => ?_)
 refine WC.drawS HS [] rfl rfl (fun w42 HS => ?_)
 have HB := Below.refl w42.heap.size w42
 have HSW := HS
 refine dm_ 0 ?_
 refine dm_ 1 ?_
 obtain ⟨⟨q43, q44⟩, H⟩ := if_some H
 obtain ⟨A45, c46, he47, le48, hf49⟩ := slc_take k54 (some ad35) c0 l0 i12 q43 q44 hc0
 replace HS := HS.deriveO (p := (cF k54 A45 (l0.take i12.toNat))) (fun W_ hO_ hN_ => hf49 W_ hO_.2.1)
 refine dp_ 2 (fun _ => Run.eqv he47 (Run.slH rfl underlying24 (by kernel_rfl) rfl rfl q43 (Int.le_trans q44 (Int.ofNat_le.mpr hc0)))) ?_
 refine dt_ 3 (Below.refl _ _) (fun w_ hw_ => Run.loadS (cs := [vi ((l0.getD i12.toNat o54).f0), vi ((l0.getD i12.toNat o54).f1)]) rfl rfl underlying54 rfl (by kernel_rfl) (box_part ((HS.below hw_).mu 0 rfl) part_all)) ?_
 obtain ⟨t50, ha51, H⟩ := bind_some H
 refine dcs_ HS HB 4 (w_none rfl) func74 (sM5.runs k27 A45 c46 (l0.take i12.toNat) (⟨(l0.getD i12.toNat o54).f0, (l0.getD i12.toNat o54).f1⟩ : S54) t50 _ (HS.getO 0 rfl) le48 ha51) (fun w52 HS HB => ?_)
 clear ha51
 refine dd_ ?_
 clear HB HSW
 refine via_ hK41 ?_
 rcases eti_ H with ⟨c53, H⟩ | ⟨c53, H⟩
 · refine wn_ (bF c53) (WC.skip (via_ hK31 (rg_ (b_ bin_add64 ?_))))
   refine mv_ ?_
   refine WL.done ?_
   exact wr_ k27 iq ⟨(wrap64 (i12 + 1)), ⟨_, H, Ho11⟩, rfl, (St.pk (St.forget HS 0 rfl) [2] [] rfl rfl)⟩
 refine wy_ c53 ?_
 refine sr_ fun _ hK54 => ?_
 refine ad_ hK54 ?_
 refine WC.ret ?_
 obtain rfl := os H
 rw [hG9] at Ho11
 replace H : some _ = some _ := Ho11
 obtain rfl := os H
 exact fin1 Try.f46 rfl rfl hR_ ⟨rfl, HS.b⟩
def impl_ModelOk_1.g (k : Nat) (l0 : List Int) (x1 : S33) : Option Bool := (if (l0.length : Int) = x1.f0 then ((impl_allIn.f l0 (-127) 127).bind fun t4 => (some (!t4))) else (some true))
theorem impl_ModelOk_1.runs (k : Nat) (A0 : Option Addr) (c0 : Nat) (l0 : List Int) (b1 : Nat) (cs1 : List Value) (x1 : S33) (r : Bool) (w : World) (hr0 : kI.C w A0 l0.length l0) (hc0 : l0.length ≤ c0) (hk1 : k33.K w x1 cs1) (hb1 : w.heap[b1]? = some (.cells cs1.toArray 33 (0, 0))) (H : impl_ModelOk_1.g k l0 x1 = some r) :
   Calls prog 49 #[.slice A0 l0.length c0, .pointer (some ⟨b1, 0, none⟩)] w fun e w' => e = .returned (.bool r) ∧ Below w.heap.size w w' := by
 have el1 : cs1.length = 14 := k33.K_len hk1
 unfold impl_ModelOk_1.g at H
 have HS : St (fun _ => True) w w [] [(cF kI A0 l0), (kF k33 x1 cs1), (fun W => W.heap[b1]? = some (.cells cs1.toArray 33 (0, 0)))] [] := St.start (foot_cons (foot_C (Kd.heap_int _) hr0) (foot_cons (foot_K h33 hk1) (foot_cons (foot_rob hb1) foot_nil)))
 refine cw_ (n := 14) func49 fun R_ hR_ => ?_
 refine sr_ fun _ hK1 => ?_
 refine ad_ hK1 ?_
 refine sr_ fun _ hK2 => ?_
 refine mv_ ?_
 refine ln_ underlying27 ?_
 refine v_ (fa_ underlying33) ?_
 refine v_ (lb_ (HS.getO 2 rfl) underlying3 (at33_0 (HS.aO 1 rfl)).int) ?_
 refine b_ bin_neq ?_
 refine mv_ ?_
 rcases eti_ H with ⟨c3, H⟩ | ⟨c3, H⟩
 · refine off_ (c' := true) (qT c3) ?_
   refine WL.know 9 (qT c3) ?_
   refine fast_ ?_
   refine via_ hK2 ?_
   obtain rfl := os H
   exact rt1 Try.f49 rfl rfl hR_ ⟨rfl, HS.b⟩
 refine on_ (qF c3) (mv_ ?_)
 refine on_ (qF c3) ?_
 obtain ⟨t4, ha5, H⟩ := bind_some H
 refine cs_ HS func50 (impl_allIn.calls A0 c0 l0 (-127) 127 t4 _ (HS.getO 0 rfl) hc0 ha5) (fun w6 HS => ?_)
 clear ha5
 refine on_ (qF c3) (nt_ ?_)
 refine v_ (Run.pickF rfl rfl (qF c3) rfl) ?_
 refine ad_ hK2 ?_
 obtain rfl := os H
 exact rt1 Try.f49 rfl rfl hR_ ⟨rfl, HS.b⟩
def sint49.b0 (l0 : List (List Int)) (x1c0 : S33) (rec_ : Int → Option (Int ⊕ Int)) (k15 : Nat) (i8 : Int) : Option (Int ⊕ Int) := (if i8 < (l0.length : Int) then (if 0 ≤ i8 ∧ i8 < (l0.length : Int) then ((impl_ModelOk_1.g k15 (l0.getD i8.toNat []) x1c0).bind fun t28 => (if t28 = true then (some (Sum.inl i8)) else (rec_ (wrap64 (i8 + 1))))) else none) else (some (Sum.inr i8)))
def sint49.l0 (l0 : List (List Int)) (x1c0 : S33) : Nat → Int → Option (Int ⊕ Int)
 | 0, _ => none
 | k + 1, i8 => sint49.b0 l0 x1c0 (sint49.l0 l0 x1c0 k) k i8
def sint49.g (k : Nat) (l0 : List (List Int)) (x1c0 : S33) : Option Int := ((sint49.l0 l0 x1c0 k 0).bind (fun oc13 => match oc13 with | .inl r_ => some r_ | .inr i8 => (some (-1))))
theorem sint49.runs (k : Nat) (A0 : Option Addr) (c0 : Nat) (l0 : List (List Int)) (b1c0 : Nat) (cs1c0 : List Value) (x1c0 : S33) (r : Int) (w : World) (hr0 : kS3.C w A0 l0.length l0) (hc0 : l0.length ≤ c0) (hk1c0 : k33.K w x1c0 cs1c0) (hb1c0 : w.heap[b1c0]? = some (.cells cs1c0.toArray 33 (0, 0))) (H : sint49.g k l0 x1c0 = some r) :
   Calls prog 76 #[.slice A0 l0.length c0, .func (.func 49) #[] #[.pointer (some ⟨b1c0, 0, none⟩)]] w fun e w' => e = .returned (vi r) ∧ Below w.heap.size w w' := by
 have el1c0 : cs1c0.length = 14 := k33.K_len hk1c0
 unfold sint49.g at H
 have HS : St (fun _ => True) w w [] [(cF kS3 A0 l0), (kF k33 x1c0 cs1c0), (fun W => W.heap[b1c0]? = some (.cells cs1c0.toArray 33 (0, 0)))] [] := St.start (foot_cons (foot_C (Kd.heap_slice _ (Kd.heap_int _)) hr0) (foot_cons (foot_K h33 hk1c0) (foot_cons (foot_rob hb1c0) foot_nil)))
 refine cw_ (n := 19) func76 fun R_ hR_ => ?_
 refine sr_ fun _ hK1 => ?_
 refine ad_ hK1 ?_
 refine WC.seq fun K2 hK2 => ?_
 refine sr_ fun _ hK3 => ?_
 refine mv_ ?_
 refine ln_ underlying25 ?_
 refine mv_ ?_
 refine dn_ hK3 (WC.block ?_)
 obtain ⟨G4, hG5, oc6, H, Ho7⟩ := open_G H
 let J9 := fun (i8 : Int) (E_ : Env) (W_ : World) => E_ = [(0, .slice A0 l0.length c0), (1, .func (.func 49) #[] #[.pointer (some ⟨b1c0, 0, none⟩)]), (7, vi (l0.length : Int)), (8, vi i8)] ∧ St (fun _ => True) w W_ [] [(cF kS3 A0 l0), (kF k33 x1c0 cs1c0), (fun W => W.heap[b1c0]? = some (.cells cs1c0.toArray 33 (0, 0)))] []
 have X10 : ∀ E_ W_, (∃ i8, G4 (Sum.inr i8) = some r ∧ J9 i8 E_ W_) → ∀ a, Fits a 19 E_ → K2 a W_ := by
   rintro E_ w11 ⟨i8, H, rfl, HS⟩
   rw [hG5] at H
   (try dsimp only at H)
   refine hK2 _ _ ?_
   refine sr_ fun _ hK12 => ?_
   refine ad_ hK12 ?_
   obtain rfl := os H
   exact rt1 Try.f76 rfl rfl hR_ ⟨rfl, HS.b⟩
 clear hK2
 refine WC.loop (fun k_ E_ W_ => ∃ i8, (∃ o_, sint49.l0 l0 x1c0 k_ i8 = some o_ ∧ G4 o_ = some r) ∧ J9 i8 E_ W_) k ⟨0, ⟨_, H, Ho7⟩, rfl, HS⟩ (sb rfl) ?_
 rintro k_ E_ w14 ⟨i8, ⟨oc6, H, Ho7⟩, rfl, HS⟩
 rcases k_ with _ | k15
 · exact no_ H
 replace H : sint49.b0 l0 x1c0 (sint49.l0 l0 x1c0 k15) k15 i8 = some oc6 := H
 unfold sint49.b0 at H
 refine sr_ fun _ hK16 => ?_
 refine b_ bin_lss ?_
 refine dn_ hK16 (WC.seq fun _ hK17 => ?_)
 rcases eti_ H with ⟨c18, H⟩ | ⟨c18, H⟩
 · refine wn_ (dF c18) (WC.exit ?_)
   obtain rfl := os H
   exact wv_ iq X10 ⟨i8, Ho7, rfl, HS⟩
 refine wy_ (dT c18) (WC.skip (via_ hK17 (WC.seq fun _ hK19 => ?_)))
 refine WC.block (sr_ fun _ hK20 => ?_)
 refine mv_ ?_
 refine ad_ hK20 ?_
 refine sr_ fun _ hK21 => ?_
 refine mv_ ?_
 refine mv_ ?_
 refine mv_ ?_
 obtain ⟨⟨q22, q23⟩, H⟩ := if_some H
 obtain ⟨ad24, rfl⟩ := C_open (HS.getO 0 rfl) (by omega)
 refine v_ (ia_ underlying25 1 q22 q23) ?_
 obtain ⟨A25, c26, le27, HS⟩ := HS.slO 0 rfl i8 q22 q23
 refine v_ (Run.load rfl rfl underlying27 rfl (HS.getO 1 rfl)) ?_
 obtain ⟨t28, ha29, H⟩ := bind_some H
 refine cv_ (args := [.slice A25 ((l0.getD i8.toNat []).length) c26]) (cap := [.pointer (some ⟨b1c0, 0, none⟩)]) func49 (impl_ModelOk_1.runs k15 A25 c26 (l0.getD i8.toNat []) b1c0 cs1c0 x1c0 t28 _ (HS.getO 0 rfl) le27 (HS.getO 3 rfl) (HS.getO 4 rfl) ha29) ?_
 clear ha29
 rintro _ w30 ⟨rfl, hb⟩
 replace HS := HS.below hb
 refine ⟨_, rfl, ?_⟩
 clear hb
 refine dn_ hK21 ?_
 rcases eti_ H with ⟨c31, H⟩ | ⟨c31, H⟩
 · refine wn_ (bF c31) (WC.skip (via_ hK19 (rg_ (b_ bin_add64 ?_))))
   refine mv_ ?_
   refine WL.done ?_
   exact wr_ k15 iq ⟨(wrap64 (i8 + 1)), ⟨_, H, Ho7⟩, rfl, (St.pk HS [2, 3, 4] [] rfl rfl)⟩
 refine wy_ c31 ?_
 refine sr_ fun _ hK32 => ?_
 refine mv_ ?_
 refine ad_ hK32 ?_
 refine WC.ret ?_
 obtain rfl := os H
 rw [hG5] at Ho7
 replace H : some _ = some _ := Ho7
 obtain rfl := os H
 exact fin1 Try.f76 rfl rfl hR_ ⟨rfl, HS.b⟩
def slices_ContainsFunc_int_int_49.g (k : Nat) (l0 : List (List Int)) (x1c0 : S33) : Option Bool := ((sint49.g k l0 x1c0).bind fun t3 => (some (decide (t3 ≥ 0))))
theorem slices_ContainsFunc_int_int_49.runs (k : Nat) (A0 : Option Addr) (c0 : Nat) (l0 : List (List Int)) (b1c0 : Nat) (cs1c0 : List Value) (x1c0 : S33) (r : Bool) (w : World) (hr0 : kS3.C w A0 l0.length l0) (hc0 : l0.length ≤ c0) (hk1c0 : k33.K w x1c0 cs1c0) (hb1c0 : w.heap[b1c0]? = some (.cells cs1c0.toArray 33 (0, 0))) (H : slices_ContainsFunc_int_int_49.g k l0 x1c0 = some r) :
   Calls prog 48 #[.slice A0 l0.length c0, .func (.func 49) #[] #[.pointer (some ⟨b1c0, 0, none⟩)]] w fun e w' => e = .returned (.bool r) ∧ Below w.heap.size w w' := by
 have el1c0 : cs1c0.length = 14 := k33.K_len hk1c0
 unfold slices_ContainsFunc_int_int_49.g at H
 have HS : St (fun _ => True) w w [] [(cF kS3 A0 l0), (kF k33 x1c0 cs1c0), (fun W => W.heap[b1c0]? = some (.cells cs1c0.toArray 33 (0, 0)))] [] := St.start (foot_cons (foot_C (Kd.heap_slice _ (Kd.heap_int _)) hr0) (foot_cons (foot_K h33 hk1c0) (foot_cons (foot_rob hb1c0) foot_nil)))
 refine cw_ (n := 9) func48 fun R_ hR_ => ?_
 refine sr_ fun _ hK1 => ?_
 refine ad_ hK1 ?_
 refine sr_ fun _ hK2 => ?_
 refine mv_ ?_
 refine mv_ ?_
 obtain ⟨t3, ha4, H⟩ := bind_some H
 refine cs_ HS func76 (sint49.runs k A0 c0 l0 b1c0 cs1c0 x1c0 t3 _ (HS.getO 0 rfl) hc0 (HS.getO 1 rfl) (HS.getO 2 rfl) ha4) (fun w5 HS => ?_)
 clear ha4
 refine b_ bin_geq ?_
 refine ad_ hK2 ?_
 obtain rfl := os H
 exact rt1 Try.f48 rfl rfl hR_ ⟨rfl, HS.b⟩
def impl_ModelOk_2.g (k : Nat) (x0 : S52) (x1 : S33) : Option Bool := ((iLO.g k x0 x1.f0).bind fun t5 => (some (!t5)))
theorem impl_ModelOk_2.runs (k : Nat) (cs0 : List Value) (x0 : S52) (b1 : Nat) (cs1 : List Value) (x1 : S33) (r : Bool) (w : World) (hk0 : k52.K w x0 cs0) (hk1 : k33.K w x1 cs1) (hb1 : w.heap[b1]? = some (.cells cs1.toArray 33 (0, 0))) (H : impl_ModelOk_2.g k x0 x1 = some r) :
   Calls prog 52 #[.agg cs0.toArray, .pointer (some ⟨b1, 0, none⟩)] w fun e w' => e = .returned (.bool r) ∧ Below w.heap.size w w' := by
 have el0 : cs0.length = 32 := k52.K_len hk0
 have el1 : cs1.length = 14 := k33.K_len hk1
 unfold impl_ModelOk_2.g at H
 have HS : St (fun _ => True) w w [] [(kF k52 x0 cs0), (kF k33 x1 cs1), (fun W => W.heap[b1]? = some (.cells cs1.toArray 33 (0, 0)))] [] := St.start (foot_cons (foot_K h52 hk0) (foot_cons (foot_K h33 hk1) (foot_cons (foot_rob hb1) foot_nil)))
 refine cw_ (n := 9) func52 fun R_ hR_ => ?_
 refine sr_ fun _ hK1 => ?_
 refine bo_ HS (fun b2 w3 hb2 HS => ?_)
 refine ad_ hK1 ?_
 refine sr_ fun _ hK4 => ?_
 refine v_ (Run.loadS (cs := cs0) rfl rfl underlying52 rfl (by rw [el0]; kernel_rfl) (box_part (HS.mu 0 rfl) part_all)) ?_
 refine v_ (fa_ underlying33) ?_
 refine v_ (lb_ (HS.getO 2 rfl) underlying3 (at33_0 (HS.aO 1 rfl)).int) ?_
 obtain ⟨t5, ha6, H⟩ := bind_some H
 refine cs_ HS func53 (iLO.runs k cs0 x0 x1.f0 t5 _ (HS.getO 0 rfl) ha6) (fun w7 HS => ?_)
 clear ha6
 refine nt_ ?_
 refine ad_ hK4 ?_
 obtain rfl := os H
 exact rt1 Try.f52 rfl rfl hR_ ⟨rfl, HS.b⟩
def sL52.b0 (l0 : List S52) (x1c0 : S33) (rec_ : Int → Option (Int ⊕ Int)) (k15 : Nat) (i8 : Int) : Option (Int ⊕ Int) := (if i8 < (l0.length : Int) then (if 0 ≤ i8 ∧ i8 < (l0.length : Int) then ((impl_ModelOk_2.g k15 (l0.getD i8.toNat o52) x1c0).bind fun t27 => (if t27 = true then (some (Sum.inl i8)) else (rec_ (wrap64 (i8 + 1))))) else none) else (some (Sum.inr i8)))
def sL52.l0 (l0 : List S52) (x1c0 : S33) : Nat → Int → Option (Int ⊕ Int)
 | 0, _ => none
 | k + 1, i8 => sL52.b0 l0 x1c0 (sL52.l0 l0 x1c0 k) k i8
def sL52.g (k : Nat) (l0 : List S52) (x1c0 : S33) : Option Int := ((sL52.l0 l0 x1c0 k 0).bind (fun oc13 => match oc13 with | .inl r_ => some r_ | .inr i8 => (some (-1))))
theorem sL52.runs (k : Nat) (A0 : Option Addr) (c0 : Nat) (l0 : List S52) (b1c0 : Nat) (cs1c0 : List Value) (x1c0 : S33) (r : Int) (w : World) (hr0 : k52.C w A0 l0.length l0) (hc0 : l0.length ≤ c0) (hk1c0 : k33.K w x1c0 cs1c0) (hb1c0 : w.heap[b1c0]? = some (.cells cs1c0.toArray 33 (0, 0))) (H : sL52.g k l0 x1c0 = some r) :
   Calls prog 79 #[.slice A0 l0.length c0, .func (.func 52) #[] #[.pointer (some ⟨b1c0, 0, none⟩)]] w fun e w' => e = .returned (vi r) ∧ Below w.heap.size w w' := by
 have el1c0 : cs1c0.length = 14 := k33.K_len hk1c0
 unfold sL52.g at H
 have HS : St (fun _ => True) w w [] [(cF k52 A0 l0), (kF k33 x1c0 cs1c0), (fun W => W.heap[b1c0]? = some (.cells cs1c0.toArray 33 (0, 0)))] [] := St.start (foot_cons (foot_C h52 hr0) (foot_cons (foot_K h33 hk1c0) (foot_cons (foot_rob hb1c0) foot_nil)))
 refine cw_ (n := 19) func79 fun R_ hR_ => ?_
 refine sr_ fun _ hK1 => ?_
 refine ad_ hK1 ?_
 refine WC.seq fun K2 hK2 => ?_
 refine sr_ fun _ hK3 => ?_
 refine mv_ ?_
 refine ln_ underlying26 ?_
 refine mv_ ?_
 refine dn_ hK3 (WC.block ?_)
 obtain ⟨G4, hG5, oc6, H, Ho7⟩ := open_G H
 let J9 := fun (i8 : Int) (E_ : Env) (W_ : World) => E_ = [(0, .slice A0 l0.length c0), (1, .func (.func 52) #[] #[.pointer (some ⟨b1c0, 0, none⟩)]), (7, vi (l0.length : Int)), (8, vi i8)] ∧ St (fun _ => True) w W_ [] [(cF k52 A0 l0), (kF k33 x1c0 cs1c0), (fun W => W.heap[b1c0]? = some (.cells cs1c0.toArray 33 (0, 0)))] []
 have X10 : ∀ E_ W_, (∃ i8, G4 (Sum.inr i8) = some r ∧ J9 i8 E_ W_) → ∀ a, Fits a 19 E_ → K2 a W_ := by
   rintro E_ w11 ⟨i8, H, rfl, HS⟩
   rw [hG5] at H
   (try dsimp only at H)
   refine hK2 _ _ ?_
   refine sr_ fun _ hK12 => ?_
   refine ad_ hK12 ?_
   obtain rfl := os H
   exact rt1 Try.f79 rfl rfl hR_ ⟨rfl, HS.b⟩
 clear hK2
 refine WC.loop (fun k_ E_ W_ => ∃ i8, (∃ o_, sL52.l0 l0 x1c0 k_ i8 = some o_ ∧ G4 o_ = some r) ∧ J9 i8 E_ W_) k ⟨0, ⟨_, H, Ho7⟩, rfl, HS⟩ (sb rfl) ?_
 rintro k_ E_ w14 ⟨i8, ⟨oc6, H, Ho7⟩, rfl, HS⟩
 rcases k_ with _ | k15
 · exact no_ H
 replace H : sL52.b0 l0 x1c0 (sL52.l0 l0 x1c0 k15) k15 i8 = some oc6 := H
 unfold sL52.b0 at H
 refine sr_ fun _ hK16 => ?_
 refine b_ bin_lss ?_
 refine dn_ hK16 (WC.seq fun _ hK17 => ?_)
 rcases eti_ H with ⟨c18, H⟩ | ⟨c18, H⟩
 · refine wn_ (dF c18) (WC.exit ?_)
   obtain rfl := os H
   exact wv_ iq X10 ⟨i8, Ho7, rfl, HS⟩
 refine wy_ (dT c18) (WC.skip (via_ hK17 (WC.seq fun _ hK19 => ?_)))
 refine WC.block (sr_ fun _ hK20 => ?_)
 refine mv_ ?_
 refine ad_ hK20 ?_
 refine sr_ fun _ hK21 => ?_
 refine mv_ ?_
 refine mv_ ?_
 refine mv_ ?_
 obtain ⟨⟨q22, q23⟩, H⟩ := if_some H
 obtain ⟨ad24, rfl⟩ := C_open (HS.getO 0 rfl) (by omega)
 refine v_ (ia_ underlying26 32 q22 q23) ?_
 obtain ⟨e25, el26, HS⟩ := HS.elO 0 rfl (by decide) o52 i8 q22 q23
 replace HS := HS.deriveO (p := (kF k52 (l0.getD i8.toNat o52) e25)) (fun W_ hO_ hN_ => hO_.1.1)
 refine v_ (Run.loadS (cs := e25) rfl rfl underlying52 rfl (by rw [el26]; kernel_rfl) (HS.getO 1 rfl).2) ?_
 obtain ⟨t27, ha28, H⟩ := bind_some H
 refine cv_ (args := [.agg e25.toArray]) (cap := [.pointer (some ⟨b1c0, 0, none⟩)]) func52 (impl_ModelOk_2.runs k15 e25 (l0.getD i8.toNat o52) b1c0 cs1c0 x1c0 t27 _ (HS.getO 0 rfl) (HS.getO 3 rfl) (HS.getO 4 rfl) ha28) ?_
 clear ha28
 rintro _ w29 ⟨rfl, hb⟩
 replace HS := HS.below hb
 refine ⟨_, rfl, ?_⟩
 clear hb
 refine dn_ hK21 ?_
 rcases eti_ H with ⟨c30, H⟩ | ⟨c30, H⟩
 · refine wn_ (bF c30) (WC.skip (via_ hK19 (rg_ (b_ bin_add64 ?_))))
   refine mv_ ?_
   refine WL.done ?_
   exact wr_ k15 iq ⟨(wrap64 (i8 + 1)), ⟨_, H, Ho7⟩, rfl, (St.pk HS [2, 3, 4] [] rfl rfl)⟩
 refine wy_ c30 ?_
 refine sr_ fun _ hK31 => ?_
 refine mv_ ?_
 refine ad_ hK31 ?_
 refine WC.ret ?_
 obtain rfl := os H
 rw [hG5] at Ho7
 replace H : some _ = some _ := Ho7
 obtain rfl := os H
 exact fin1 Try.f79 rfl rfl hR_ ⟨rfl, HS.b⟩
def sL521.g (k : Nat) (l0 : List S52) (x1c0 : S33) : Option Bool := ((sL52.g k l0 x1c0).bind fun t3 => (some (decide (t3 ≥ 0))))
theorem sL521.runs (k : Nat) (A0 : Option Addr) (c0 : Nat) (l0 : List S52) (b1c0 : Nat) (cs1c0 : List Value) (x1c0 : S33) (r : Bool) (w : World) (hr0 : k52.C w A0 l0.length l0) (hc0 : l0.length ≤ c0) (hk1c0 : k33.K w x1c0 cs1c0) (hb1c0 : w.heap[b1c0]? = some (.cells cs1c0.toArray 33 (0, 0))) (H : sL521.g k l0 x1c0 = some r) :
   Calls prog 51 #[.slice A0 l0.length c0, .func (.func 52) #[] #[.pointer (some ⟨b1c0, 0, none⟩)]] w fun e w' => e = .returned (.bool r) ∧ Below w.heap.size w w' := by
 have el1c0 : cs1c0.length = 14 := k33.K_len hk1c0
 unfold sL521.g at H
 have HS : St (fun _ => True) w w [] [(cF k52 A0 l0), (kF k33 x1c0 cs1c0), (fun W => W.heap[b1c0]? = some (.cells cs1c0.toArray 33 (0, 0)))] [] := St.start (foot_cons (foot_C h52 hr0) (foot_cons (foot_K h33 hk1c0) (foot_cons (foot_rob hb1c0) foot_nil)))
 refine cw_ (n := 9) func51 fun R_ hR_ => ?_
 refine sr_ fun _ hK1 => ?_
 refine ad_ hK1 ?_
 refine sr_ fun _ hK2 => ?_
 refine mv_ ?_
 refine mv_ ?_
 obtain ⟨t3, ha4, H⟩ := bind_some H
 refine cs_ HS func79 (sL52.runs k A0 c0 l0 b1c0 cs1c0 x1c0 t3 _ (HS.getO 0 rfl) hc0 (HS.getO 1 rfl) (HS.getO 2 rfl) ha4) (fun w5 HS => ?_)
 clear ha4
 refine b_ bin_geq ?_
 refine ad_ hK2 ?_
 obtain rfl := os H
 exact rt1 Try.f51 rfl rfl hR_ ⟨rfl, HS.b⟩
end Go.Proofs.Ytbdbadkinjbpcaa.PFnFiles
