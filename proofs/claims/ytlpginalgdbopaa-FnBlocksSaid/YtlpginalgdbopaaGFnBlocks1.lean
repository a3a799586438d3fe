/- Functions that the statement reaches, as Lean functions, and the proof that a call of each comes to just its answer; written by this claim's own program. No conditions. -/
import Derived.Test.YtlpginalgdbopaaGFnBlocks0
namespace Go.Proofs.Ytlpginalgdbopaa.PFnBlocks
open Try
open Go.RowKit Go.Proofs.YtlpginalgdbopaaW.PrintWords Go.Proofs.YtlpginalgdbopaaW.PrintLast Go.Proofs.YtlpginalgdbopaaW.PrintMore Go.Proofs.Ytlpginalgdbopaa.XW Go.Proofs.Ytlpginalgdbopaa.XOp Go.Proofs.Ytlpginalgdbopaa.XSt Go.Proofs.Ytlpginalgdbopaa.XDraw
set_option linter.unusedVariables false
set_option linter.unusedSimpArgs false
set_option maxHeartbeats 4000000
set_option maxRecDepth 20000
def spec_AddCell.g (k : Nat) (x0 : S58) (x1 : S67) (x2 : S62) : Option (S58 × S67 × Bool) := ((spec_TableOk.g k (⟨x0.f0, x0.f1⟩ : S58) (⟨x1.f0, x1.f1⟩ : S67)).bind fun t14 => (if t14 = true then ((spec_l15Copy.g k (⟨x0.f0, x0.f1⟩ : S58)).bind fun t19 => ((spec_l15CopyTable.g k (⟨x1.f0, x1.f1⟩ : S67)).bind fun t38 => (((if (Int.tmod x1.f1 4) > 0 then (if 0 ≤ (wrap64 ((x1.f0.length : Int) - 1)) ∧ (wrap64 ((x1.f0.length : Int) - 1)) < (x1.f0.length : Int) then (if 0 ≤ (x1.f0.getD (wrap64 ((x1.f0.length : Int) - 1)).toNat 0) ∧ (x1.f0.getD (wrap64 ((x1.f0.length : Int) - 1)).toNat 0) < (x0.f1.length : Int) then (if 0 ≤ (Int.tmod x1.f1 4) ∧ (Int.tmod x1.f1 4) ≤ ((x0.f1.getD (x1.f0.getD (wrap64 ((x1.f0.length : Int) - 1)).toNat 0).toNat []).length : Int) then ((spec_l14CopyCells.g k ((x0.f1.getD (x1.f0.getD (wrap64 ((x1.f0.length : Int) - 1)).toNat 0).toNat []).take (Int.tmod x1.f1 4).toNat)).bind fun t202 => (if (0) + (t202.length) < 4294967296 then (if 0 ≤ (x1.f0.getD (wrap64 ((x1.f0.length : Int) - 1)).toNat 0) ∧ (x1.f0.getD (wrap64 ((x1.f0.length : Int) - 1)).toNat 0) < (x0.f0.length : Int) then (if (x0.f0.getD (x1.f0.getD (wrap64 ((x1.f0.length : Int) - 1)).toNat 0).toNat 0) = 1 then ((spec_l14Copy.g k (⟨x2.f0, x2.f1⟩ : S62)).bind fun t228 => (if ((([] : List S62) ++ t202).length) < 4294967296 then (if 0 ≤ (x1.f0.getD (wrap64 ((x1.f0.length : Int) - 1)).toNat 0) ∧ (x1.f0.getD (wrap64 ((x1.f0.length : Int) - 1)).toNat 0) < ((t19.f1.length : Nat) : Int) then (some (Sum.inl ((⟨t19.f0, (t19.f1.set (x1.f0.getD (wrap64 ((x1.f0.length : Int) - 1)).toNat 0).toNat ((([] : List S62) ++ t202) ++ [t228]))⟩ : S58), (⟨t38.f0, wrap64 (t38.f1 + 1)⟩ : S67), true))) else none) else none)) else (some (Sum.inr ((([] : List S62) ++ t202), t19.f1)))) else none) else none)) else none) else none) else none) else (some (Sum.inr (([] : List S62), t19.f1)))) : Option ((S58 × S67 × Bool) ⊕ ((List S62) × (List (List S62))))).bind (fun oc181 => match oc181 with | .inl r_ => some r_ | .inr ⟨xs59, xs62⟩ => ((spec_TakePage.g k t19.f0).bind fun t68 => (if t68.2.2 = true then ((spec_l14Copy.g k (⟨x2.f0, x2.f1⟩ : S62)).bind fun t86 => (if (xs59.length) < 4294967296 then (if 0 ≤ t68.2.1 ∧ t68.2.1 < ((xs62.length : Nat) : Int) then (((if (Int.tmod x1.f1 4) > 0 then (if 0 ≤ (wrap64 ((t38.f0.length : Int) - 1)) ∧ (wrap64 ((t38.f0.length : Int) - 1)) < ((t38.f0.length : Nat) : Int) then ((spec_DropPage.g k t68.1 (t38.f0.getD (wrap64 ((t38.f0.length : Int) - 1)).toNat 0)).bind fun t155 => (some (t155.1, (t38.f0.set (wrap64 ((t38.f0.length : Int) - 1)).toNat t68.2.1)))) else none) else (if (t38.f0.length) < 4294967296 then (some (t68.1, (t38.f0 ++ [t68.2.1]))) else none)) : Option ((List Int) × (List Int))).bind (fun oc147 => (some ((⟨oc147.1, (xs62.set t68.2.1.toNat (xs59 ++ [t86]))⟩ : S58), (⟨oc147.2, wrap64 (t38.f1 + 1)⟩ : S67), true)))) else none) else none)) else (some ((⟨[], []⟩ : S58), (⟨[], 0⟩ : S67), false)))))))) else (some ((⟨[], []⟩ : S58), (⟨[], 0⟩ : S67), false))))
theorem spec_AddCell.runs (k : Nat) (x0 : S58) (A0_0 : Option Addr) (c0_0 : Nat) (A0_1 : Option Addr) (c0_1 : Nat) (x1 : S67) (A1_0 : Option Addr) (c1_0 : Nat) (x2 : S62) (A2_0 : Option Addr) (c2_0 : Nat) (A2_1 : Option Addr) (c2_1 : Nat) (r1 : S58) (r2 : S67) (r3 : Bool) (w : World) (hr0_0 : kI.C w A0_0 x0.f0.length x0.f0) (hc0_0 : x0.f0.length ≤ c0_0) (hr0_1 : kS62.C w A0_1 x0.f1.length x0.f1) (hc0_1 : x0.f1.length ≤ c0_1) (hr1_0 : kI.C w A1_0 x1.f0.length x1.f0) (hc1_0 : x1.f0.length ≤ c1_0) (hr2_0 : kS149.C w A2_0 x2.f0.length x2.f0) (hc2_0 : x2.f0.length ≤ c2_0) (hr2_1 : kS149.C w A2_1 x2.f1.length x2.f1) (hc2_1 : x2.f1.length ≤ c2_1) (H : spec_AddCell.g k x0 x1 x2 = some (r1, r2, r3)) :
   Calls prog 46 #[.agg #[.slice A0_0 x0.f0.length c0_0, .slice A0_1 x0.f1.length c0_1], .agg #[.slice A1_0 x1.f0.length c1_0, vi x1.f1], .agg #[.slice A2_0 x2.f0.length c2_0, .slice A2_1 x2.f1.length c2_1]] w fun e w' => ∃ (A0_0_ : Option Addr) (c0_0_ : Nat) (A0_1_ : Option Addr) (c0_1_ : Nat) (A1_0_ : Option Addr) (c1_0_ : Nat), e = .returned (.tuple #[.agg #[.slice A0_0_ r1.f0.length c0_0_, .slice A0_1_ r1.f1.length c0_1_], .agg #[.slice A1_0_ r2.f0.length c1_0_, vi r2.f1], .bool r3]) ∧ r1.f0.length ≤ c0_0_ ∧ Foot (cF kI A0_0_ r1.f0) w' (fun k_ => w.heap.size ≤ k_) ∧ r1.f1.length ≤ c0_1_ ∧ Foot (cF kS62 A0_1_ r1.f1) w' (fun k_ => w.heap.size ≤ k_) ∧ r2.f0.length ≤ c1_0_ ∧ Foot (cF kI A1_0_ r2.f0) w' (fun k_ => w.heap.size ≤ k_) ∧ Below w.heap.size w w' := by
 unfold spec_AddCell.g at H
 have HS : St (fun _ => True) w w [] [(cF kI A0_0 x0.f0), (cF kS62 A0_1 x0.f1), (cF kI A1_0 x1.f0), (cF kS149 A2_0 x2.f0), (cF kS149 A2_1 x2.f1)] [] := St.start (foot_cons (foot_C (Kd.heap_int _) hr0_0) (foot_cons (foot_C (Kd.heap_slice _ h62) hr0_1) (foot_cons (foot_C (Kd.heap_int _) hr1_0) (foot_cons (foot_C (Kd.heap_slice _ h149) hr2_0) (foot_cons (foot_C (Kd.heap_slice _ h149) hr2_1) foot_nil)))))
 refine cw_ (n := 131) func46 fun R_ hR_ => ?_
 refine sr_ fun _ hK1 => ?_
 refine bo_ HS (fun b2 w3 hb2 HS => ?_)
 refine bo_ HS (fun b4 w5 hb4 HS => ?_)
 refine bo_ HS (fun b6 w7 hb6 HS => ?_)
 refine WL.alloc HS (v := .agg #[sn, sn]) (cs := #[sn, sn]) rfl rfl (by decide) rfl (by kernel_rfl) rfl (fun b8 w9 hb8 HS => ?_)
 exact by (
 refine WL.alloc HS (v := .agg #[sn, vi 0]) (cs := #[sn, vi 0]) rfl rfl (by decide) rfl (by kernel_rfl) rfl (fun b10 w11 hb10 HS => ?_)
 refine ad_ hK1 ?_
 clear hK1
 refine WC.seq fun _ hK12 => ?_
 refine sr_ fun _ hK13 => ?_
 refine v_ (ls_ (HS.mu 4 rfl) underlying58 part_all) ?_
 refine v_ (ls_ (HS.mu 3 rfl) underlying67 part_all) ?_
 obtain ⟨t14, ha15, H⟩ := bind_some H
 exact by (
 refine cs_ HS func52 (spec_TableOk.runs k (⟨x0.f0, x0.f1⟩ : S58) A0_0 c0_0 A0_1 c0_1 (⟨x1.f0, x1.f1⟩ : S67) A1_0 c1_0 t14 _ (HS.getO 0 rfl) hc0_0 (HS.getO 1 rfl) hc0_1 (HS.getO 2 rfl) hc1_0 ha15) (fun w16 HS => ?_)
 clear ha15
 refine nt_ ?_
 refine dn_ hK13 ?_
 clear hK13
 rcases eti_ H with ⟨c17, H⟩ | ⟨c17, H⟩
 · refine wy_ (nB (bF c17)) (sr_ fun _ hK272 => ?_)
   refine v_ (Run.build (cells := #[sn, sn]) rfl [] trivial (by kernel_rfl)) ?_
   exact by (
   refine v_ (Run.build (cells := #[sn, vi 0]) rfl [] trivial (by kernel_rfl)) ?_
   refine WL.storeW HS 1 rfl rfl rfl rfl rfl rfl (oneL rfl) (by kernel_rfl) rfl (fun w273 HS => ?_)
   dsimp only [List.set] at HS
   refine WL.storeW HS 0 rfl rfl rfl rfl rfl rfl (oneL rfl) (by kernel_rfl) rfl (fun w274 HS => ?_)
   dsimp only [List.set] at HS
   refine ad_ hK272 ?_
   clear hK272
   obtain ⟨rfl, rfl, rfl⟩ := (by have h_ := os H; simp only [Prod.mk.injEq] at h_; exact h_)
   exact rt3 Try.f46 rfl ⟨_, rfl, resv_box (HS.mu 1 rfl) underlying58 rfl (by kernel_rfl)⟩ ⟨_, rfl, resv_box (HS.mu 0 rfl) underlying67 rfl (by kernel_rfl)⟩ rfl hR_ ⟨_, _, _, _, _, _, rfl, (Nat.le_refl _), (fun W_ _ => Kd.C_nil _ _), (Nat.le_refl _), (fun W_ _ => Kd.C_nil _ _), (Nat.le_refl _), (fun W_ _ => Kd.C_nil _ _), HS.b⟩ )
 exact by (
 refine wn_ (nB c17) (WC.skip (via_ hK12 (sr_ fun _ hK18 => ?_)))
 clear hK12
 refine v_ (ls_ (HS.mu 4 rfl) underlying58 part_all) ?_
 obtain ⟨t19, ha20, H⟩ := bind_some H
 refine c_ func111 (spec_l15Copy.runs k (⟨x0.f0, x0.f1⟩ : S58) A0_0 c0_0 A0_1 c0_1 t19 _ (HS.getO 0 rfl) hc0_0 (HS.getO 1 rfl) hc0_1 ha20) ?_
 clear ha20
 rintro _ w21 ⟨v22, bl23, v24, bl25, rfl, hO_, hb⟩
 replace HS := HS.got hb hO_
 exact by (
 dsimp only [List.cons_append, List.nil_append] at HS
 clear hO_
 obtain ⟨I26, bl27, HS⟩ := HS.unseal (sz := 1) rfl
 replace HS := HS.freezeN 1 (p := (rF kI t19.f0 I26)) rfl (fun _ hP_ _ => RepsB.reps hP_)
 dsimp only [List.eraseIdx] at HS
 replace HS := HS.front 1 rfl
 dsimp only [List.eraseIdx] at HS
 obtain ⟨I28, bl29, HS⟩ := HS.unseal (sz := 1) rfl
 exact by (
 replace HS := HS.freezeN 1 (p := (rF kS62 t19.f1 I28)) rfl (fun _ hP_ _ => RepsB.reps hP_)
 dsimp only [List.eraseIdx] at HS
 refine ⟨_, rfl, ?_⟩
 clear hb
 refine WL.alloc HS (v := .agg #[sn, sn]) (cs := #[sn, sn]) rfl rfl (by decide) rfl (by kernel_rfl) rfl (fun b30 w31 hb30 HS => ?_)
 obtain ⟨A33, c34, rfl⟩ := row_slice (HS.mu 2 rfl)
 obtain ⟨A35, c36, rfl⟩ := row_slice (HS.mu 1 rfl)
 refine WL.storeW HS 0 rfl rfl rfl rfl rfl rfl (oneL rfl) (by kernel_rfl) rfl (fun w32 HS => ?_)
 exact by (
 dsimp only [List.set] at HS
 refine dn_ hK18 (sr_ fun _ hK37 => ?_)
 clear hK18
 refine v_ (ls_ (HS.mu 6 rfl) underlying67 part_all) ?_
 obtain ⟨t38, ha39, H⟩ := bind_some H
 refine c_ func112 (spec_l15CopyTable.runs k (⟨x1.f0, x1.f1⟩ : S67) A1_0 c1_0 t38 _ (HS.getO 2 rfl) hc1_0 ha39) ?_
 clear ha39
 rintro _ w40 ⟨v41, bl42, rfl, hO_, hb⟩
 exact by (
 replace HS := HS.got hb hO_
 dsimp only [List.cons_append, List.nil_append] at HS
 clear hO_
 obtain ⟨I43, bl44, HS⟩ := HS.unseal (sz := 1) rfl
 replace HS := HS.freezeN 1 (p := (rF kI t38.f0 I43)) rfl (fun _ hP_ _ => RepsB.reps hP_)
 dsimp only [List.eraseIdx] at HS
 refine ⟨_, rfl, ?_⟩
 clear hb
 exact by (
 refine WL.alloc HS (v := .agg #[sn, vi 0]) (cs := #[sn, vi 0]) rfl rfl (by decide) rfl (by kernel_rfl) rfl (fun b45 w46 hb45 HS => ?_)
 obtain ⟨A48, c49, rfl⟩ := row_slice (HS.mu 1 rfl)
 refine WL.storeW HS 0 rfl rfl rfl rfl rfl rfl (oneL rfl) (by kernel_rfl) rfl (fun w47 HS => ?_)
 dsimp only [List.set] at HS
 refine dn_ hK37 (sr_ fun _ hK50 => ?_)
 clear hK37
 refine v_ (fa_ underlying67) ?_
 refine v_ (lb_ (HS.mu 8 rfl) underlying3 rfl) ?_
 exact by (
 refine v_ (Run.bin rfl rfl rfl (bin_rem (show (4 : Int) ≠ 0 by decide))) ?_
 refine ad_ hK50 ?_
 clear hK50
 refine sr_ fun _ hK51 => ?_
 refine WL.lit0 HS rfl rfl (by decide) rfl underlying71 (sz := 2) (by kernel_rfl) (fun v52 w53 HS => ?_)
 replace HS := HS.deriveN (p := (rF k62 ([] : List S62) [])) (fun _ _ => Reps.none _ _)
 refine ad_ hK51 ?_
 clear hK51
 exact by (
 refine WC.seq fun K54 hK54 => ?_
 obtain ⟨G55, hG56, oc57, H, Ho58⟩ := open_G H
 have X65 : ∀ E_ W_, (∃ (xs59 : List S62) (v60 : Value) (I61 : List Value) (xs62 : List (List S62)) (v63 : Value) (I64 : List Value), E_ = [(5, .pointer (some ⟨b6, 0, none⟩)), (6, .pointer (some ⟨b8, 0, none⟩)), (7, .pointer (some ⟨b10, 0, none⟩)), (9, .pointer (some ⟨b30, 0, none⟩)), (10, .pointer (some ⟨b45, 0, none⟩)), (11, vi (Int.tmod x1.f1 4)), (12, v60)] ∧ G55 (Sum.inr (xs59, xs62)) = some (r1, r2, r3) ∧ St (fun _ => True) w W_ [rowM w.heap.size 62 2 v60 xs59.length I61, boxM b45 #[(.slice A48 t38.f0.length c49), vi t38.f1] 67, rowM w.heap.size 3 1 (.slice A48 t38.f0.length c49) t38.f0.length I43, boxM b30 #[(.slice A33 t19.f0.length c34), v63] 58, rowM w.heap.size 71 1 v63 xs62.length I64, rowM w.heap.size 3 1 (.slice A33 t19.f0.length c34) t19.f0.length I26, boxM b10 #[sn, vi 0] 67, boxM b8 #[sn, sn] 58, boxM b6 #[.slice A2_0 x2.f0.length c2_0, .slice A2_1 x2.f1.length c2_1] 62, boxM b4 #[.slice A1_0 x1.f0.length c1_0, vi x1.f1] 67, boxM b2 #[.slice A0_0 x0.f0.length c0_0, .slice A0_1 x0.f1.length c0_1] 58] [(cF kI A0_0 x0.f0), (cF kS62 A0_1 x0.f1), (cF kI A1_0 x1.f0), (cF kS149 A2_0 x2.f0), (cF kS149 A2_1 x2.f1)] [(rF k62 xs59 I61), (rF kI t38.f0 I43), (rF kS62 xs62 I64), (rF kI t19.f0 I26)]) → ∀ a, Fits a 131 E_ → K54 a W_ := by
   rintro E_ w66 ⟨xs59, v60, I61, xs62, v63, I64, rfl, H, HS⟩
   rw [hG56] at H
   (try dsimp only at H)
   refine hK54 _ _ ?_
   clear hK54
   exact by (
   refine sr_ fun _ hK67 => ?_
   refine v_ (fa_ underlying58) ?_
   refine v_ (lb_ (HS.mu 3 rfl) underlying22 rfl) ?_
   obtain ⟨t68, ha69, H⟩ := bind_some H
   refine c_ func115 (spec_TakePage.runs k A33 c34 t19.f0 t68.1 t68.2.1 t68.2.2 _ (row_C rfl (HS.mu 5 rfl) (HS.getN 3 rfl)) (row_le (HS.mu 5 rfl)) ha69) ?_
   clear ha69
   rintro _ w70 ⟨v71, bl72, rfl, hO_, hb⟩
   replace HS := HS.got hb hO_
   exact by (
   dsimp only [List.cons_append, List.nil_append] at HS
   clear hO_
   obtain ⟨I73, bl74, HS⟩ := HS.unseal (sz := 1) rfl
   replace HS := HS.freezeN 1 (p := (rF kI t68.1 I73)) rfl (fun _ hP_ _ => RepsB.reps hP_)
   dsimp only [List.eraseIdx] at HS
   refine ⟨_, rfl, ?_⟩
   clear hb
   refine mv_ ?_
   exact by (
   refine v_ (Run.extract rfl rfl rfl) ?_
   refine v_ (Run.extract rfl rfl rfl) ?_
   refine v_ (Run.extract rfl rfl rfl) ?_
   refine fast_ ?_
   refine via_ hK67 (WC.seq fun _ hK75 => ?_)
   clear hK67
   refine sr_ fun _ hK76 => ?_
   refine mv_ ?_
   exact by (
   refine nt_ ?_
   refine dn_ hK76 ?_
   clear hK76
   rcases eti_ H with ⟨c77, H⟩ | ⟨c77, H⟩
   · refine wy_ (nB (bF c77)) (sr_ fun _ hK178 => ?_)
     refine v_ (Run.build (cells := #[sn, sn]) rfl [] trivial (by kernel_rfl)) ?_
     refine v_ (Run.build (cells := #[sn, vi 0]) rfl [] trivial (by kernel_rfl)) ?_
     refine WL.storeW HS 8 rfl rfl rfl rfl rfl rfl (oneL rfl) (by kernel_rfl) rfl (fun w179 HS => ?_)
     exact by (
     dsimp only [List.set] at HS
     refine WL.storeW HS 7 rfl rfl rfl rfl rfl rfl (oneL rfl) (by kernel_rfl) rfl (fun w180 HS => ?_)
     dsimp only [List.set] at HS
     refine ad_ hK178 ?_
     clear hK178
     obtain ⟨rfl, rfl, rfl⟩ := (by have h_ := os H; simp only [Prod.mk.injEq] at h_; exact h_)
     exact rt3 Try.f46 rfl ⟨_, rfl, resv_box (HS.mu 8 rfl) underlying58 rfl (by kernel_rfl)⟩ ⟨_, rfl, resv_box (HS.mu 7 rfl) underlying67 rfl (by kernel_rfl)⟩ rfl hR_ ⟨_, _, _, _, _, _, rfl, (Nat.le_refl _), (fun W_ _ => Kd.C_nil _ _), (Nat.le_refl _), (fun W_ _ => Kd.C_nil _ _), (Nat.le_refl _), (fun W_ _ => Kd.C_nil _ _), HS.b⟩ )
   refine wn_ (nB c77) (WC.skip (via_ hK75 (sr_ fun _ hK78 => ?_)))
   exact by (
   clear hK75
   refine mv_ ?_
   refine v_ (fa_ underlying58) ?_
   obtain ⟨A80, c81, rfl⟩ := row_slice (HS.mu 0 rfl)
   refine WL.store HS 4 rfl rfl rfl rfl rfl rfl rfl (by kernel_rfl) (ble_ rfl) (cs' := #[(.slice A80 t68.1.length c81), v63]) (by kernel_rfl) (fun w79 HS => ?_)
   dsimp only [List.set] at HS
   refine dn_ hK78 (WC.seq fun _ hK82 => ?_)
   clear hK78
   exact by (
   refine WC.drawW HS [boxM b45 #[(.slice A48 t38.f0.length c49), vi t38.f1] 67, boxM b30 #[(.slice A80 t68.1.length c81), v63] 58, boxM b10 #[sn, vi 0] 67, boxM b8 #[sn, sn] 58, boxM b6 #[.slice A2_0 x2.f0.length c2_0, .slice A2_1 x2.f1.length c2_1] 62, boxM b4 #[.slice A1_0 x1.f0.length c1_0, vi x1.f1] 67, boxM b2 #[.slice A0_0 x0.f0.length c0_0, .slice A0_1 x0.f1.length c0_1] 58] (fun _ HS => ⟨(HS.mu 2 rfl), (HS.mu 4 rfl), (HS.mu 7 rfl), (HS.mu 8 rfl), (HS.mu 9 rfl), (HS.mu 10 rfl), (HS.mu 11 rfl), trivial⟩) [9] rfl rfl (fun w83 HS => ?_)
   refine df_ 0 underlying58 ?_
   refine dm_ 2 ?_
   refine dm_ 3 ?_
   obtain ⟨A84, c85, rfl⟩ := row_slice (HS.mu 5 rfl)
   refine dt_ 1 ⟨HS.nowO, HS.nowN, ⟨(HS.mu 2 rfl), (HS.mu 4 rfl), (HS.mu 7 rfl), (HS.mu 8 rfl), (HS.mu 9 rfl), (HS.mu 10 rfl), (HS.mu 11 rfl), trivial⟩⟩ (fun w_ hw_ => Run.load rfl rfl underlying56 rfl (box_cell hw_.2.2.2.1 rfl)) ?_
   refine dt_ 4 ⟨HS.nowO, HS.nowN, ⟨(HS.mu 2 rfl), (HS.mu 4 rfl), (HS.mu 7 rfl), (HS.mu 8 rfl), (HS.mu 9 rfl), (HS.mu 10 rfl), (HS.mu 11 rfl), trivial⟩⟩ (fun w_ hw_ => Run.loadS (cs := [.slice A2_0 x2.f0.length c2_0, .slice A2_1 x2.f1.length c2_1]) rfl rfl underlying62 rfl (by kernel_rfl) (box_part hw_.2.2.2.2.2.2.1 part_all)) ?_
   obtain ⟨t86, ha87, H⟩ := bind_some H
   exact by (
   refine dc_ 5 (w_none rfl) func114 (spec_l14Copy.runs k (⟨x2.f0, x2.f1⟩ : S62) A2_0 c2_0 A2_1 c2_1 t86 _ (HS.getO 3 rfl) hc2_0 (HS.getO 4 rfl) hc2_1 ha87) ?_
   clear ha87
   rintro _ w88 ⟨v89, bl90, v91, bl92, rfl, hO_, hb⟩
   replace HS := HS.got hb hO_
   dsimp only [List.cons_append, List.nil_append] at HS
   clear hO_
   obtain ⟨I93, bl94, HS⟩ := HS.unseal (sz := 1) rfl
   replace HS := HS.freezeN 1 (p := (rF kS149 t86.f0 I93)) rfl (fun _ hP_ _ => RepsB.reps hP_)
   exact by (
   dsimp only [List.eraseIdx] at HS
   replace HS := HS.front 1 rfl
   dsimp only [List.eraseIdx] at HS
   obtain ⟨I95, bl96, HS⟩ := HS.unseal (sz := 1) rfl
   replace HS := HS.freezeN 1 (p := (rF kS149 t86.f1 I95)) rfl (fun _ hP_ _ => RepsB.reps hP_)
   dsimp only [List.eraseIdx] at HS
   refine ⟨⟨HS.nowO, HS.nowN.2.2, ⟨(HS.mu 4 rfl), (HS.mu 6 rfl), (HS.mu 9 rfl), (HS.mu 10 rfl), (HS.mu 11 rfl), (HS.mu 12 rfl), (HS.mu 13 rfl), trivial⟩⟩, _, rfl, ?_⟩
   clear hb
   exact by (
   obtain ⟨A97, c98, rfl⟩ := row_slice (HS.mu 1 rfl)
   have le99 := row_le (HS.mu 1 rfl)
   replace HS := HS.freezeN 1 (p := (cF kS149 A97 (t86.f0))) rfl (fun W_ hm_ h_ => row_C (by rfl) hm_ h_.2.1)
   dsimp only [List.eraseIdx] at HS
   obtain ⟨A100, c101, rfl⟩ := row_slice (HS.mu 0 rfl)
   have le102 := row_le (HS.mu 0 rfl)
   replace HS := HS.freezeN 0 (p := (cF kS149 A100 (t86.f1))) rfl (fun W_ hm_ h_ => row_C (by rfl) hm_ h_.2.1)
   dsimp only [List.eraseIdx] at HS
   exact by (
   have HS1 := HS.below (below_alloc (Below.refl _ _) (.cells #[.slice A97 t86.f0.length c98, .slice A100 t86.f1.length c101] 62))
   refine dv_ 6 (w_none rfl) (Run.lit1 (z := (.agg #[sn, sn])) (vs := [.slice A97 t86.f0.length c98, .slice A100 t86.f1.length c101]) rfl rfl rfl underlying71 (by kernel_rfl) (ble_ rfl) (ble_ rfl)) ⟨HS1.nowO, HS1.nowN.2.2.2.2, ⟨(HS1.mu 2 rfl), (HS1.mu 4 rfl), (HS1.mu 7 rfl), (HS1.mu 8 rfl), (HS1.mu 9 rfl), (HS1.mu 10 rfl), (HS1.mu 11 rfl), trivial⟩⟩ ?_
   obtain ⟨q103, H⟩ := if_some H
   refine WD.append 7 (w_none rfl) HS1 1 rfl rfl (.agg #[sn, sn]) 48 underlying71 (by kernel_rfl) rfl (by decide) (by decide) rfl rfl [.slice A97 t86.f0.length c98, .slice A100 t86.f1.length c101] rfl (lit_news _ _ _) (oneL rfl) (by omega) ((xs59 ++ [t86]).length) (by simp) (fun v104 w105 I106 hI107 HS => ?_)
   dsimp only [List.set] at HS
   replace HS := HS.deriveN (p := (rF k62 (xs59 ++ [t86]) I106)) (fun W_ hN_ => reps_snoc hI107 hN_.2.2.2.2.2.1 (k62_mk _ t86 (le99) hN_.2.1 (le102) hN_.1))
   clear HS1
   refine ⟨⟨HS.nowO, HS.nowN.2.2.2.2.2, ⟨(HS.mu 2 rfl), (HS.mu 4 rfl), (HS.mu 7 rfl), (HS.mu 8 rfl), (HS.mu 9 rfl), (HS.mu 10 rfl), (HS.mu 11 rfl), trivial⟩⟩, ?_⟩
   exact by (
   obtain ⟨⟨q108, q109⟩, H⟩ := if_some H
   obtain ⟨ad110, rfl⟩ := row_open (HS.mu 5 rfl) (lenpos q108 q109)
   refine di_ 8 underlying56 1 q108 q109 ?_
   obtain ⟨A114, c115, rfl⟩ := row_slice (HS.mu 1 rfl)
   have le116 := row_le (HS.mu 1 rfl)
   replace HS := HS.freezeN 1 (p := (cF k62 A114 ((xs59 ++ [t86])))) rfl (fun W_ hm_ h_ => row_C (by rfl) hm_ h_.1)
   dsimp only [List.eraseIdx] at HS
   have hk_ := mul_room q108 q109 1
   exact by (
   refine WD.putElL 9 HS 4 rfl rfl rfl rfl [.slice A114 ((xs59 ++ [t86]).length) c115] rfl (oneL rfl) (by kernel_rfl) (by first | omega | (rw [List.length_nil]; omega) | (simp; omega)) (fun w111 I112 hI113 HS => ?_)
   dsimp only [List.set] at HS
   clear hk_
   replace HS := HS.deriveN (p := (rF kS62 (xs62.set t68.2.1.toNat (xs59 ++ [t86])) I112)) (fun W_ hN_ => reps_set hI113 hN_.2.2.2.2.2.2.2.2.2.1 (K_slice le116 hN_.1) (toNat_lt q108 q109))
   replace HS := HS.rowN 4 rfl (show xs62.length = (xs62.set t68.2.1.toNat (xs59 ++ [t86])).length from (List.length_set ..).symm)
   dsimp only [List.set] at HS
   generalize hv118 : (Value.slice (some ad110) xs62.length c85) = v117 at HS ⊢
   refine dd_ (via_ hK82 (WC.seq fun K119 hK119 => ?_))
   exact by (
   clear hK82
   obtain ⟨G120, hG121, oc122, H, Ho123⟩ := open_G H
   have X130 : ∀ E_ W_, (∃ (xs124 : List Int) (v125 : Value) (I126 : List Value) (xs127 : List Int) (v128 : Value) (I129 : List Value), E_ = [(6, .pointer (some ⟨b8, 0, none⟩)), (7, .pointer (some ⟨b10, 0, none⟩)), (9, .pointer (some ⟨b30, 0, none⟩)), (10, .pointer (some ⟨b45, 0, none⟩))] ∧ G120 (xs124, xs127) = some (r1, r2, r3) ∧ St (fun _ => True) w W_ [rowM w.heap.size 3 1 v125 xs124.length I126, boxM b45 #[v128, vi t38.f1] 67, rowM w.heap.size 3 1 v128 xs127.length I129, boxM b30 #[v125, v117] 58, rowM w.heap.size 71 1 v117 ((xs62.set t68.2.1.toNat (xs59 ++ [t86])).length) I112, boxM b10 #[sn, vi 0] 67, boxM b8 #[sn, sn] 58, boxM b6 #[.slice A2_0 x2.f0.length c2_0, .slice A2_1 x2.f1.length c2_1] 62, boxM b4 #[.slice A1_0 x1.f0.length c1_0, vi x1.f1] 67, boxM b2 #[.slice A0_0 x0.f0.length c0_0, .slice A0_1 x0.f1.length c0_1] 58] [(cF kI A0_0 x0.f0), (cF kS62 A0_1 x0.f1), (cF kI A1_0 x1.f0), (cF kS149 A2_0 x2.f0), (cF kS149 A2_1 x2.f1)] [(rF kS62 (xs62.set t68.2.1.toNat (xs59 ++ [t86])) I112), (rF kI xs124 I126), (rF kI xs127 I129)]) → ∀ a, Fits a 131 E_ → K119 a W_ := by
     rintro E_ w131 ⟨xs124, v125, I126, xs127, v128, I129, rfl, H, HS⟩
     rw [hG121] at H
     (try dsimp only at H)
     refine hK119 _ _ ?_
     clear hK119
     exact by (
     refine sr_ fun _ hK132 => ?_
     refine v_ (fa_ underlying67) ?_
     refine v_ (lb_ (HS.mu 1 rfl) underlying3 rfl) ?_
     refine b_ bin_add64 ?_
     refine v_ (fa_ underlying67) ?_
     refine WL.store HS 1 rfl rfl rfl rfl rfl rfl rfl (by kernel_rfl) (ble_ rfl) (cs' := #[v128, vi (wrap64 (t38.f1 + 1))]) (by kernel_rfl) (fun w133 HS => ?_)
     dsimp only [List.set] at HS
     refine dn_ hK132 (WC.seq fun _ hK134 => ?_)
     exact by (
     clear hK132
     refine WC.drawW HS [boxM b45 #[v128, vi (wrap64 (t38.f1 + 1))] 67, boxM b30 #[v125, v117] 58, boxM b6 #[.slice A2_0 x2.f0.length c2_0, .slice A2_1 x2.f1.length c2_1] 62, boxM b4 #[.slice A1_0 x1.f0.length c1_0, vi x1.f1] 67, boxM b2 #[.slice A0_0 x0.f0.length c0_0, .slice A0_1 x0.f1.length c0_1] 58] (fun _ HS => ⟨(HS.mu 1 rfl), (HS.mu 3 rfl), (HS.mu 7 rfl), (HS.mu 8 rfl), (HS.mu 9 rfl), trivial⟩) [] rfl rfl (fun w135 HS => ?_)
     obtain ⟨A136, c137, rfl⟩ := row_slice (HS.mu 0 rfl)
     obtain ⟨A138, c139, rfl⟩ := row_slice (HS.mu 4 rfl)
     refine dt_ 0 ⟨HS.nowO, HS.nowN, ⟨(HS.mu 1 rfl), (HS.mu 3 rfl), (HS.mu 7 rfl), (HS.mu 8 rfl), (HS.mu 9 rfl), trivial⟩⟩ (fun w_ hw_ => Run.loadS (cs := [(.slice A136 xs124.length c137), (.slice A138 ((xs62.set t68.2.1.toNat (xs59 ++ [t86])).length) c139)]) rfl rfl underlying58 rfl (by kernel_rfl) (box_part hw_.2.2.2.1 part_all)) ?_
     obtain ⟨A140, c141, rfl⟩ := row_slice (HS.mu 2 rfl)
     refine dt_ 1 ⟨HS.nowO, HS.nowN, ⟨(HS.mu 1 rfl), (HS.mu 3 rfl), (HS.mu 7 rfl), (HS.mu 8 rfl), (HS.mu 9 rfl), trivial⟩⟩ (fun w_ hw_ => Run.loadS (cs := [(.slice A140 xs127.length c141), vi (wrap64 (t38.f1 + 1))]) rfl rfl underlying67 rfl (by kernel_rfl) (box_part hw_.2.2.1 part_all)) ?_
     refine WD.storeS 2 HS 6 rfl rfl rfl rfl (oneL rfl) (by kernel_rfl) (ble_ rfl) (cs' := #[(.slice A136 xs124.length c137), (.slice A138 ((xs62.set t68.2.1.toNat (xs59 ++ [t86])).length) c139)]) (by kernel_rfl) (fun w142 HS => ?_)
     exact by (
     dsimp only [List.set] at HS
     refine ⟨⟨HS.nowO, HS.nowN, ⟨(HS.mu 1 rfl), (HS.mu 3 rfl), (HS.mu 7 rfl), (HS.mu 8 rfl), (HS.mu 9 rfl), trivial⟩⟩, ?_⟩
     refine WD.storeS 3 HS 5 rfl rfl rfl rfl (oneL rfl) (by kernel_rfl) (ble_ rfl) (cs' := #[(.slice A140 xs127.length c141), vi (wrap64 (t38.f1 + 1))]) (by kernel_rfl) (fun w143 HS => ?_)
     dsimp only [List.set] at HS
     refine ⟨⟨HS.nowO, HS.nowN, ⟨(HS.mu 1 rfl), (HS.mu 3 rfl), (HS.mu 7 rfl), (HS.mu 8 rfl), (HS.mu 9 rfl), trivial⟩⟩, ?_⟩
     refine dp_ 4 (fun _ => Run.assign rfl rfl) ?_
     refine dd_ (via_ hK134 (WC.ret ?_))
     clear hK134
     exact by (
     have le144 := row_le (HS.mu 0 rfl)
     replace HS := HS.freezeN 0 (p := (cF kI A136 (xs124))) rfl (fun W_ hm_ h_ => row_C (by rfl) hm_ h_.2.1)
     dsimp only [List.eraseIdx] at HS
     have le145 := row_le (HS.mu 3 rfl)
     replace HS := HS.freezeN 3 (p := (cF kS62 A138 ((xs62.set t68.2.1.toNat (xs59 ++ [t86]))))) rfl (fun W_ hm_ h_ => row_C (by rfl) hm_ h_.2.1)
     dsimp only [List.eraseIdx] at HS
     have le146 := row_le (HS.mu 1 rfl)
     replace HS := HS.freezeN 1 (p := (cF kI A140 (xs127))) rfl (fun W_ hm_ h_ => row_C (by rfl) hm_ h_.2.2.2.2.1)
     exact by (
     dsimp only [List.eraseIdx] at HS
     obtain ⟨rfl, rfl, rfl⟩ := (by have h_ := os H; simp only [Prod.mk.injEq] at h_; exact h_)
     exact fin3 Try.f46 rfl ⟨_, rfl, resv_box (HS.mu 3 rfl) underlying58 rfl (by kernel_rfl)⟩ ⟨_, rfl, resv_box (HS.mu 2 rfl) underlying67 rfl (by kernel_rfl)⟩ rfl hR_ ⟨_, _, _, _, _, _, rfl, le144, (foot_fresh (HS.footN 2 rfl)), le145, (foot_fresh (HS.footN 1 rfl)), le146, (foot_fresh (HS.footN 0 rfl)), HS.b⟩ )))))
   clear hK119
   refine sr_ fun _ hK148 => ?_
   refine mv_ ?_
   refine b_ bin_gtr ?_
   refine dn_ hK148 ?_
   exact by (
   clear hK148
   rcases eti_ H with ⟨c149, H⟩ | ⟨c149, H⟩
   · refine wn_ (dF c149) (rg_ (v_ (fa_ underlying67) ?_))
     refine v_ (lb_ (HS.mu 1 rfl) underlying22 rfl) ?_
     refine mv_ ?_
     refine WL.val rfl rfl (by decide) (Run.lit1 (z := (vi 0)) (vs := [vi t68.2.1]) rfl rfl rfl underlying22 (by kernel_rfl) (ble_ rfl) (ble_ rfl)) ?_
     have HS1 := HS.below (below_alloc (Below.refl _ _) (.cells #[vi t68.2.1] 3))
     obtain ⟨q170, H⟩ := if_some H
     exact by (
     refine WL.append HS1 2 rfl rfl rfl (by decide) rfl (vi 0) 8 underlying22 (by kernel_rfl) rfl (by decide) (by decide) rfl rfl [vi t68.2.1] rfl (lit_news _ _ _) (oneL rfl) (by omega) ((t38.f0 ++ [t68.2.1]).length) (by simp) (fun v171 w172 I173 hI174 HS => ?_)
     dsimp only [List.set] at HS
     replace HS := HS.deriveN (p := (rF kI (t38.f0 ++ [t68.2.1]) I173)) (fun W_ hN_ => reps_snoc hI174 hN_.2.2.2.2.2.2.2.2.2.1 (K_int _))
     clear HS1
     refine v_ (fa_ underlying67) ?_
     obtain ⟨A176, c177, rfl⟩ := row_slice (HS.mu 2 rfl)
     refine WL.store HS 1 rfl rfl rfl rfl rfl rfl rfl (by kernel_rfl) (ble_ rfl) (cs' := #[(.slice A176 ((t38.f0 ++ [t68.2.1]).length) c177), vi t38.f1]) (by kernel_rfl) (fun w175 HS => ?_)
     dsimp only [List.set] at HS
     exact by (
     refine WL.done ?_
     obtain rfl := os H
     exact wv_ iq X130 ⟨t68.1, (.slice A80 t68.1.length c81), I73, (t38.f0 ++ [t68.2.1]), (.slice A176 ((t38.f0 ++ [t68.2.1]).length) c177), I173, rfl, Ho123, (St.pk (St.forget HS 5 rfl) [0, 1, 2, 3, 4] [1, 8, 0] rfl rfl)⟩ ))
   refine wy_ (dT c149) (WC.seq fun _ hK150 => ?_)
   refine WC.drawW HS [rowM w.heap.size 3 1 (.slice A80 t68.1.length c81) t68.1.length I73, boxM b45 #[(.slice A48 t38.f0.length c49), vi t38.f1] 67, rowM w.heap.size 3 1 (.slice A48 t38.f0.length c49) t38.f0.length I43, boxM b30 #[(.slice A80 t68.1.length c81), v117] 58, rowM w.heap.size 71 1 v117 ((xs62.set t68.2.1.toNat (xs59 ++ [t86])).length) I112, rowM w.heap.size 3 1 (.slice A33 t19.f0.length c34) t19.f0.length I26, boxM b10 #[sn, vi 0] 67, boxM b8 #[sn, sn] 58, boxM b6 #[.slice A2_0 x2.f0.length c2_0, .slice A2_1 x2.f1.length c2_1] 62, boxM b4 #[.slice A1_0 x1.f0.length c1_0, vi x1.f1] 67, boxM b2 #[.slice A0_0 x0.f0.length c0_0, .slice A0_1 x0.f1.length c0_1] 58] (fun _ HS => ⟨(HS.mu 0 rfl), (HS.mu 1 rfl), (HS.mu 2 rfl), (HS.mu 3 rfl), (HS.mu 4 rfl), (HS.mu 5 rfl), (HS.mu 6 rfl), (HS.mu 7 rfl), (HS.mu 8 rfl), (HS.mu 9 rfl), (HS.mu 10 rfl), trivial⟩) [15] rfl rfl (fun w151 HS => ?_)
   refine df_ 0 underlying58 ?_
   refine df_ 2 underlying67 ?_
   refine df_ 4 underlying67 ?_
   exact by (
   refine dt_ 1 ⟨HS.nowO, HS.nowN, ⟨(HS.mu 0 rfl), (HS.mu 1 rfl), (HS.mu 2 rfl), (HS.mu 3 rfl), (HS.mu 4 rfl), (HS.mu 5 rfl), (HS.mu 6 rfl), (HS.mu 7 rfl), (HS.mu 8 rfl), (HS.mu 9 rfl), (HS.mu 10 rfl), trivial⟩⟩ (fun w_ hw_ => Run.load rfl rfl underlying22 rfl (box_cell hw_.2.2.2.2.2.1 rfl)) ?_
   refine dt_ 3 ⟨HS.nowO, HS.nowN, ⟨(HS.mu 0 rfl), (HS.mu 1 rfl), (HS.mu 2 rfl), (HS.mu 3 rfl), (HS.mu 4 rfl), (HS.mu 5 rfl), (HS.mu 6 rfl), (HS.mu 7 rfl), (HS.mu 8 rfl), (HS.mu 9 rfl), (HS.mu 10 rfl), trivial⟩⟩ (fun w_ hw_ => Run.load rfl rfl underlying22 rfl (box_cell hw_.2.2.2.1 rfl)) ?_
   refine dt_ 5 ⟨HS.nowO, HS.nowN, ⟨(HS.mu 0 rfl), (HS.mu 1 rfl), (HS.mu 2 rfl), (HS.mu 3 rfl), (HS.mu 4 rfl), (HS.mu 5 rfl), (HS.mu 6 rfl), (HS.mu 7 rfl), (HS.mu 8 rfl), (HS.mu 9 rfl), (HS.mu 10 rfl), trivial⟩⟩ (fun w_ hw_ => Run.load rfl rfl underlying22 rfl (box_cell hw_.2.2.2.1 rfl)) ?_
   refine dp_ 6 (fun _ => Run.len (ts := #[]) rfl underlying22 rfl) ?_
   refine dp_ 7 (fun _ => Run.bin rfl rfl rfl bin_sub64) ?_
   obtain ⟨⟨q152, q153⟩, H⟩ := if_some H
   obtain ⟨ad154, rfl⟩ := row_open (HS.mu 2 rfl) (lenpos q152 q153)
   refine di_ 8 underlying22 1 q152 q153 ?_
   exact by (
   refine dt_ 9 ⟨HS.nowO, HS.nowN, ⟨(HS.mu 0 rfl), (HS.mu 1 rfl), (HS.mu 2 rfl), (HS.mu 3 rfl), (HS.mu 4 rfl), (HS.mu 5 rfl), (HS.mu 6 rfl), (HS.mu 7 rfl), (HS.mu 8 rfl), (HS.mu 9 rfl), (HS.mu 10 rfl), trivial⟩⟩ (fun w_ hw_ => Run.load rfl rfl underlying3 rfl (row_int hw_.2.2.2.2.1 (AllF.get 9 rfl hw_.2.1) q152 q153)) ?_
   obtain ⟨t155, ha156, H⟩ := bind_some H
   refine dc_ 10 (w_none rfl) func116 (spec_DropPage.runs k A80 c81 t68.1 (t38.f0.getD (wrap64 ((t38.f0.length : Int) - 1)).toNat 0) t155.1 t155.2 _ (row_C rfl (HS.mu 0 rfl) (HS.getN 7 rfl)) (row_le (HS.mu 0 rfl)) ha156) ?_
   clear ha156
   rintro _ w157 ⟨v158, bl159, rfl, hO_, hb⟩
   replace HS := HS.got hb hO_
   dsimp only [List.cons_append, List.nil_append] at HS
   clear hO_
   exact by (
   obtain ⟨I160, bl161, HS⟩ := HS.unseal (sz := 1) rfl
   replace HS := HS.freezeN 1 (p := (rF kI t155.1 I160)) rfl (fun _ hP_ _ => RepsB.reps hP_)
   dsimp only [List.eraseIdx] at HS
   refine ⟨⟨HS.nowO, HS.nowN.2, ⟨(HS.mu 1 rfl), (HS.mu 2 rfl), (HS.mu 3 rfl), (HS.mu 4 rfl), (HS.mu 5 rfl), (HS.mu 6 rfl), (HS.mu 7 rfl), (HS.mu 8 rfl), (HS.mu 9 rfl), (HS.mu 10 rfl), (HS.mu 11 rfl), trivial⟩⟩, _, rfl, ?_⟩
   clear hb
   refine dm_ 11 ?_
   refine dp_ 12 (fun _ => Run.extract rfl rfl rfl) ?_
   refine dp_ 13 (fun _ => Run.extract rfl rfl rfl) ?_
   exact by (
   refine df_ 14 underlying58 ?_
   obtain ⟨A163, c164, rfl⟩ := row_slice (HS.mu 0 rfl)
   refine WD.storeL 15 HS 4 rfl rfl rfl rfl rfl (by kernel_rfl) (ble_ rfl) (cs' := #[(.slice A163 t155.1.length c164), v117]) (by kernel_rfl) (fun w162 HS => ?_)
   dsimp only [List.set] at HS
   refine dd_ (via_ hK150 (rg_ (v_ (fa_ underlying67) ?_)))
   clear hK150
   refine v_ (lb_ (HS.mu 2 rfl) underlying22 rfl) ?_
   refine v_ (fa_ underlying67) ?_
   exact by (
   refine v_ (lb_ (HS.mu 2 rfl) underlying22 rfl) ?_
   refine ln_ underlying22 ?_
   refine b_ bin_sub64 ?_
   refine mv_ ?_
   refine v_ (ia_ underlying22 1 q152 q153) ?_
   have hk_ := mul_room q152 q153 1
   refine WL.putEl HS 3 rfl rfl rfl rfl rfl rfl [vi t68.2.1] rfl (oneL rfl) (by kernel_rfl) (by first | omega | (rw [List.length_nil]; omega) | (simp; omega)) (fun w165 I166 hI167 HS => ?_)
   dsimp only [List.set] at HS
   exact by (
   clear hk_
   replace HS := HS.deriveN (p := (rF kI (t38.f0.set (wrap64 ((t38.f0.length : Int) - 1)).toNat t68.2.1) I166)) (fun W_ hN_ => reps_set hI167 hN_.2.2.2.2.2.2.2.2.2.2.1 (K_int _) (toNat_lt q152 q153))
   replace HS := HS.rowN 3 rfl (show t38.f0.length = (t38.f0.set (wrap64 ((t38.f0.length : Int) - 1)).toNat t68.2.1).length from (List.length_set ..).symm)
   dsimp only [List.set] at HS
   generalize hv169 : (Value.slice (some ad154) t38.f0.length c49) = v168 at HS ⊢
   refine WL.done ?_
   obtain rfl := os H
   exact wv_ iq X130 ⟨t155.1, (.slice A163 t155.1.length c164), I160, (t38.f0.set (wrap64 ((t38.f0.length : Int) - 1)).toNat t68.2.1), v168, I166, rfl, Ho123, (St.pk (St.forget (St.forget HS 6 rfl) 1 rfl) [0, 1, 2, 3, 4] [2, 1, 0] rfl rfl)⟩ ))))))))))))))))))))
 exact by (
 clear hK54
 refine sr_ fun _ hK182 => ?_
 refine mv_ ?_
 refine b_ bin_gtr ?_
 refine dn_ hK182 ?_
 clear hK182
 rcases eti_ H with ⟨c183, H⟩ | ⟨c183, H⟩
 · refine wn_ (dF c183) (WC.skip ?_)
   obtain rfl := os H
   exact wv_ iq X65 ⟨([] : List S62), v52, ([]), t19.f1, (.slice A35 t19.f1.length c36), I28, rfl, Ho58, HS⟩
 exact by (
 refine wy_ (dT c183) (sr_ fun _ hK184 => ?_)
 refine v_ (fa_ underlying67) ?_
 refine v_ (lb_ (HS.mu 9 rfl) underlying22 rfl) ?_
 refine v_ (fa_ underlying67) ?_
 refine v_ (lb_ (HS.mu 9 rfl) underlying22 rfl) ?_
 refine ln_ underlying22 ?_
 refine b_ bin_sub64 ?_
 obtain ⟨⟨q185, q186⟩, H⟩ := if_some H
 exact by (
 obtain ⟨ad187, rfl⟩ := C_open (HS.getO 2 rfl) (lenpos q185 q186)
 refine v_ (ia_ underlying22 1 q185 q186) ?_
 refine v_ (Run.load rfl rfl underlying3 rfl (int_cell (HS.getO 2 rfl) (wrap64 ((x1.f0.length : Int) - 1)) q185 q186)) ?_
 refine ad_ hK184 ?_
 clear hK184
 refine sr_ fun _ hK188 => ?_
 refine mv_ ?_
 refine v_ (fa_ underlying58) ?_
 exact by (
 refine v_ (lb_ (HS.mu 10 rfl) underlying56 rfl) ?_
 refine mv_ ?_
 obtain ⟨⟨q189, q190⟩, H⟩ := if_some H
 obtain ⟨ad191, rfl⟩ := C_open (HS.getO 1 rfl) (lenpos q189 q190)
 refine v_ (ia_ underlying56 1 q189 q190) ?_
 obtain ⟨A192, c193, le194, HS⟩ := HS.slO 1 rfl (x1.f0.getD (wrap64 ((x1.f0.length : Int) - 1)).toNat 0) q189 q190
 refine v_ (Run.load rfl rfl underlying71 rfl (HS.getO 1 rfl)) ?_
 refine mv_ ?_
 exact by (
 obtain ⟨⟨q195, q196⟩, H⟩ := if_some H
 obtain ⟨A197, c198, he199, le200, hf201⟩ := slc_take k62 A192 c193 (x0.f1.getD (x1.f0.getD (wrap64 ((x1.f0.length : Int) - 1)).toNat 0).toNat []) (Int.tmod x1.f1 4) q195 q196 le194
 replace HS := HS.deriveO (p := (cF k62 A197 ((x0.f1.getD (x1.f0.getD (wrap64 ((x1.f0.length : Int) - 1)).toNat 0).toNat []).take (Int.tmod x1.f1 4).toNat))) (fun W_ hO_ hN_ => hf201 W_ hO_.1)
 refine v_ (Run.eqv he199 (Run.slH rfl underlying71 (by kernel_rfl) rfl rfl q195 (Int.le_trans q196 (Int.ofNat_le.mpr le194)))) ?_
 obtain ⟨t202, ha203, H⟩ := bind_some H
 refine c_ func113 (spec_l14CopyCells.runs k A197 c198 ((x0.f1.getD (x1.f0.getD (wrap64 ((x1.f0.length : Int) - 1)).toNat 0).toNat []).take (Int.tmod x1.f1 4).toNat) t202 _ (HS.getO 0 rfl) le200 ha203) ?_
 clear ha203
 rintro _ w204 ⟨v205, bl206, rfl, hO_, hb⟩
 exact by (
 replace HS := HS.got hb hO_
 dsimp only [List.cons_append, List.nil_append] at HS
 clear hO_
 obtain ⟨I207, bl208, HS⟩ := HS.unseal (sz := 2) rfl
 replace HS := HS.freezeN 1 (p := (rF k62 t202 I207)) rfl (fun _ hP_ _ => RepsB.reps hP_)
 dsimp only [List.eraseIdx] at HS
 refine ⟨_, rfl, ?_⟩
 clear hb
 exact by (
 obtain ⟨q209, H⟩ := if_some H
 obtain ⟨A215, c216, rfl⟩ := row_slice (HS.mu 0 rfl)
 obtain ⟨hl211, h212, hc214⟩ := row_all (dd := k62) (HS.mu 0 rfl) (HS.getN 0 rfl) (by decide)
 refine WL.appendL HS 1 rfl rfl rfl (by decide) rfl (.agg #[sn, sn]) 48 underlying71 (by kernel_rfl) rfl (by decide) (by decide) rfl rfl I207 hl211 hc214 h212 (by omega) ((([] : List S62) ++ t202).length) (by simp <;> omega) (fun v217 w218 I219 hI220 HS => ?_)
 dsimp only [List.set] at HS
 replace HS := HS.deriveN (p := (rF k62 (([] : List S62) ++ t202) I219)) (fun W_ hN_ => reps_more hI220 hN_.2.1 hN_.1)
 refine ad_ hK188 ?_
 clear hK188
 exact by (
 refine sr_ fun _ hK221 => ?_
 refine v_ (fa_ underlying58) ?_
 refine v_ (lb_ (HS.mu 11 rfl) underlying22 rfl) ?_
 refine mv_ ?_
 obtain ⟨⟨q222, q223⟩, H⟩ := if_some H
 obtain ⟨ad224, rfl⟩ := C_open (HS.getO 3 rfl) (lenpos q222 q223)
 refine v_ (ia_ underlying22 1 q222 q223) ?_
 refine v_ (Run.load rfl rfl underlying3 rfl (int_cell (HS.getO 3 rfl) (x1.f0.getD (wrap64 ((x1.f0.length : Int) - 1)).toNat 0) q222 q223)) ?_
 exact by (
 refine b_ bin_eql ?_
 refine dn_ hK221 ?_
 clear hK221
 rcases eti_ H with ⟨c225, H⟩ | ⟨c225, H⟩
 · refine wn_ (eF c225) (WC.skip ?_)
   obtain rfl := os H
   exact wv_ iq X65 ⟨(([] : List S62) ++ t202), v217, I219, t19.f1, (.slice A35 t19.f1.length c36), I28, rfl, Ho58, (St.pk (St.forget HS 0 rfl) [3, 4, 5, 6, 7] [0, 3, 4, 5] rfl rfl)⟩
 refine wy_ (eT c225) (WC.seq fun _ hK226 => ?_)
 exact by (
 refine WC.drawW HS [boxM b45 #[(.slice A48 t38.f0.length c49), vi t38.f1] 67, boxM b30 #[(.slice A33 t19.f0.length c34), (.slice A35 t19.f1.length c36)] 58, boxM b10 #[sn, vi 0] 67, boxM b8 #[sn, sn] 58, boxM b6 #[.slice A2_0 x2.f0.length c2_0, .slice A2_1 x2.f1.length c2_1] 62, boxM b4 #[.slice (some ad187) x1.f0.length c1_0, vi x1.f1] 67, boxM b2 #[.slice (some ad224) x0.f0.length c0_0, .slice (some ad191) x0.f1.length c0_1] 58] (fun _ HS => ⟨(HS.mu 2 rfl), (HS.mu 4 rfl), (HS.mu 7 rfl), (HS.mu 8 rfl), (HS.mu 9 rfl), (HS.mu 10 rfl), (HS.mu 11 rfl), trivial⟩) [9] rfl rfl (fun w227 HS => ?_)
 refine df_ 0 underlying58 ?_
 refine dm_ 2 ?_
 refine dm_ 3 ?_
 refine dt_ 1 ⟨HS.nowO, HS.nowN, ⟨(HS.mu 2 rfl), (HS.mu 4 rfl), (HS.mu 7 rfl), (HS.mu 8 rfl), (HS.mu 9 rfl), (HS.mu 10 rfl), (HS.mu 11 rfl), trivial⟩⟩ (fun w_ hw_ => Run.load rfl rfl underlying56 rfl (box_cell hw_.2.2.2.1 rfl)) ?_
 refine dt_ 4 ⟨HS.nowO, HS.nowN, ⟨(HS.mu 2 rfl), (HS.mu 4 rfl), (HS.mu 7 rfl), (HS.mu 8 rfl), (HS.mu 9 rfl), (HS.mu 10 rfl), (HS.mu 11 rfl), trivial⟩⟩ (fun w_ hw_ => Run.loadS (cs := [.slice A2_0 x2.f0.length c2_0, .slice A2_1 x2.f1.length c2_1]) rfl rfl underlying62 rfl (by kernel_rfl) (box_part hw_.2.2.2.2.2.2.1 part_all)) ?_
 obtain ⟨t228, ha229, H⟩ := bind_some H
 refine dc_ 5 (w_none rfl) func114 (spec_l14Copy.runs k (⟨x2.f0, x2.f1⟩ : S62) A2_0 c2_0 A2_1 c2_1 t228 _ (HS.getO 6 rfl) hc2_0 (HS.getO 7 rfl) hc2_1 ha229) ?_
 exact by (
 clear ha229
 rintro _ w230 ⟨v231, bl232, v233, bl234, rfl, hO_, hb⟩
 replace HS := HS.got hb hO_
 dsimp only [List.cons_append, List.nil_append] at HS
 clear hO_
 obtain ⟨I235, bl236, HS⟩ := HS.unseal (sz := 1) rfl
 replace HS := HS.freezeN 1 (p := (rF kS149 t228.f0 I235)) rfl (fun _ hP_ _ => RepsB.reps hP_)
 dsimp only [List.eraseIdx] at HS
 exact by (
 replace HS := HS.front 1 rfl
 dsimp only [List.eraseIdx] at HS
 obtain ⟨I237, bl238, HS⟩ := HS.unseal (sz := 1) rfl
 replace HS := HS.freezeN 1 (p := (rF kS149 t228.f1 I237)) rfl (fun _ hP_ _ => RepsB.reps hP_)
 dsimp only [List.eraseIdx] at HS
 refine ⟨⟨HS.nowO, HS.nowN.2.2, ⟨(HS.mu 4 rfl), (HS.mu 6 rfl), (HS.mu 9 rfl), (HS.mu 10 rfl), (HS.mu 11 rfl), (HS.mu 12 rfl), (HS.mu 13 rfl), trivial⟩⟩, _, rfl, ?_⟩
 clear hb
 obtain ⟨A239, c240, rfl⟩ := row_slice (HS.mu 1 rfl)
 exact by (
 have le241 := row_le (HS.mu 1 rfl)
 replace HS := HS.freezeN 1 (p := (cF kS149 A239 (t228.f0))) rfl (fun W_ hm_ h_ => row_C (by rfl) hm_ h_.2.1)
 dsimp only [List.eraseIdx] at HS
 obtain ⟨A242, c243, rfl⟩ := row_slice (HS.mu 0 rfl)
 have le244 := row_le (HS.mu 0 rfl)
 replace HS := HS.freezeN 0 (p := (cF kS149 A242 (t228.f1))) rfl (fun W_ hm_ h_ => row_C (by rfl) hm_ h_.2.1)
 dsimp only [List.eraseIdx] at HS
 have HS1 := HS.below (below_alloc (Below.refl _ _) (.cells #[.slice A239 t228.f0.length c240, .slice A242 t228.f1.length c243] 62))
 exact by (
 refine dv_ 6 (w_none rfl) (Run.lit1 (z := (.agg #[sn, sn])) (vs := [.slice A239 t228.f0.length c240, .slice A242 t228.f1.length c243]) rfl rfl rfl underlying71 (by kernel_rfl) (ble_ rfl) (ble_ rfl)) ⟨HS1.nowO, HS1.nowN.2.2.2.2, ⟨(HS1.mu 2 rfl), (HS1.mu 4 rfl), (HS1.mu 7 rfl), (HS1.mu 8 rfl), (HS1.mu 9 rfl), (HS1.mu 10 rfl), (HS1.mu 11 rfl), trivial⟩⟩ ?_
 obtain ⟨q245, H⟩ := if_some H
 refine WD.append 7 (w_none rfl) HS1 1 rfl rfl (.agg #[sn, sn]) 48 underlying71 (by kernel_rfl) rfl (by decide) (by decide) rfl rfl [.slice A239 t228.f0.length c240, .slice A242 t228.f1.length c243] rfl (lit_news _ _ _) (oneL rfl) (by omega) (((([] : List S62) ++ t202) ++ [t228]).length) (by simp) (fun v246 w247 I248 hI249 HS => ?_)
 dsimp only [List.set] at HS
 replace HS := HS.deriveN (p := (rF k62 ((([] : List S62) ++ t202) ++ [t228]) I248)) (fun W_ hN_ => reps_snoc hI249 hN_.2.2.2.2.1 (k62_mk _ t228 (le241) hN_.2.1 (le244) hN_.1))
 clear HS1
 refine ⟨⟨HS.nowO, HS.nowN.2.2.2.2.2, ⟨(HS.mu 2 rfl), (HS.mu 4 rfl), (HS.mu 7 rfl), (HS.mu 8 rfl), (HS.mu 9 rfl), (HS.mu 10 rfl), (HS.mu 11 rfl), trivial⟩⟩, ?_⟩
 obtain ⟨⟨q250, q251⟩, H⟩ := if_some H
 exact by (
 obtain ⟨ad252, rfl⟩ := row_open (HS.mu 5 rfl) (lenpos q250 q251)
 refine di_ 8 underlying56 1 q250 q251 ?_
 obtain ⟨A256, c257, rfl⟩ := row_slice (HS.mu 1 rfl)
 have le258 := row_le (HS.mu 1 rfl)
 replace HS := HS.freezeN 1 (p := (cF k62 A256 (((([] : List S62) ++ t202) ++ [t228])))) rfl (fun W_ hm_ h_ => row_C (by rfl) hm_ h_.1)
 dsimp only [List.eraseIdx] at HS
 have hk_ := mul_room q250 q251 1
 refine WD.putElL 9 HS 4 rfl rfl rfl rfl [.slice A256 (((([] : List S62) ++ t202) ++ [t228]).length) c257] rfl (oneL rfl) (by kernel_rfl) (by first | omega | (rw [List.length_nil]; omega) | (simp; omega)) (fun w253 I254 hI255 HS => ?_)
 exact by (
 dsimp only [List.set] at HS
 clear hk_
 replace HS := HS.deriveN (p := (rF kS62 (t19.f1.set (x1.f0.getD (wrap64 ((x1.f0.length : Int) - 1)).toNat 0).toNat ((([] : List S62) ++ t202) ++ [t228])) I254)) (fun W_ hN_ => reps_set hI255 hN_.2.2.2.2.2.2.2.2.2.2.1 (K_slice le258 hN_.1) (toNat_lt q250 q251))
 replace HS := HS.rowN 4 rfl (show t19.f1.length = (t19.f1.set (x1.f0.getD (wrap64 ((x1.f0.length : Int) - 1)).toNat 0).toNat ((([] : List S62) ++ t202) ++ [t228])).length from (List.length_set ..).symm)
 dsimp only [List.set] at HS
 generalize hv260 : (Value.slice (some ad252) t19.f1.length c36) = v259 at HS ⊢
 refine dd_ (via_ hK226 (sr_ fun _ hK261 => ?_))
 clear hK226
 exact by (
 refine v_ (fa_ underlying67) ?_
 refine v_ (lb_ (HS.mu 1 rfl) underlying3 rfl) ?_
 refine b_ bin_add64 ?_
 refine v_ (fa_ underlying67) ?_
 refine WL.store HS 1 rfl rfl rfl rfl rfl rfl rfl (by kernel_rfl) (ble_ rfl) (cs' := #[(.slice A48 t38.f0.length c49), vi (wrap64 (t38.f1 + 1))]) (by kernel_rfl) (fun w262 HS => ?_)
 dsimp only [List.set] at HS
 refine dn_ hK261 (WC.seq fun _ hK263 => ?_)
 clear hK261
 exact by (
 refine WC.drawW HS [boxM b45 #[(.slice A48 t38.f0.length c49), vi (wrap64 (t38.f1 + 1))] 67, boxM b30 #[(.slice A33 t19.f0.length c34), v259] 58, boxM b6 #[.slice A2_0 x2.f0.length c2_0, .slice A2_1 x2.f1.length c2_1] 62, boxM b4 #[.slice (some ad187) x1.f0.length c1_0, vi x1.f1] 67, boxM b2 #[.slice (some ad224) x0.f0.length c0_0, .slice (some ad191) x0.f1.length c0_1] 58] (fun _ HS => ⟨(HS.mu 1 rfl), (HS.mu 3 rfl), (HS.mu 8 rfl), (HS.mu 9 rfl), (HS.mu 10 rfl), trivial⟩) [] rfl rfl (fun w264 HS => ?_)
 obtain ⟨A265, c266, rfl⟩ := row_slice (HS.mu 4 rfl)
 refine dt_ 0 ⟨HS.nowO, HS.nowN, ⟨(HS.mu 1 rfl), (HS.mu 3 rfl), (HS.mu 8 rfl), (HS.mu 9 rfl), (HS.mu 10 rfl), trivial⟩⟩ (fun w_ hw_ => Run.loadS (cs := [(.slice A33 t19.f0.length c34), (.slice A265 ((t19.f1.set (x1.f0.getD (wrap64 ((x1.f0.length : Int) - 1)).toNat 0).toNat ((([] : List S62) ++ t202) ++ [t228])).length) c266)]) rfl rfl underlying58 rfl (by kernel_rfl) (box_part hw_.2.2.2.1 part_all)) ?_
 refine dt_ 1 ⟨HS.nowO, HS.nowN, ⟨(HS.mu 1 rfl), (HS.mu 3 rfl), (HS.mu 8 rfl), (HS.mu 9 rfl), (HS.mu 10 rfl), trivial⟩⟩ (fun w_ hw_ => Run.loadS (cs := [(.slice A48 t38.f0.length c49), vi (wrap64 (t38.f1 + 1))]) rfl rfl underlying67 rfl (by kernel_rfl) (box_part hw_.2.2.1 part_all)) ?_
 refine WD.storeS 2 HS 7 rfl rfl rfl rfl (oneL rfl) (by kernel_rfl) (ble_ rfl) (cs' := #[(.slice A33 t19.f0.length c34), (.slice A265 ((t19.f1.set (x1.f0.getD (wrap64 ((x1.f0.length : Int) - 1)).toNat 0).toNat ((([] : List S62) ++ t202) ++ [t228])).length) c266)]) (by kernel_rfl) (fun w267 HS => ?_)
 dsimp only [List.set] at HS
 refine ⟨⟨HS.nowO, HS.nowN, ⟨(HS.mu 1 rfl), (HS.mu 3 rfl), (HS.mu 8 rfl), (HS.mu 9 rfl), (HS.mu 10 rfl), trivial⟩⟩, ?_⟩
 refine WD.storeS 3 HS 6 rfl rfl rfl rfl (oneL rfl) (by kernel_rfl) (ble_ rfl) (cs' := #[(.slice A48 t38.f0.length c49), vi (wrap64 (t38.f1 + 1))]) (by kernel_rfl) (fun w268 HS => ?_)
 exact by (
 dsimp only [List.set] at HS
 refine ⟨⟨HS.nowO, HS.nowN, ⟨(HS.mu 1 rfl), (HS.mu 3 rfl), (HS.mu 8 rfl), (HS.mu 9 rfl), (HS.mu 10 rfl), trivial⟩⟩, ?_⟩
 refine dp_ 4 (fun _ => Run.assign rfl rfl) ?_
 refine dd_ (via_ hK263 (WC.ret ?_))
 clear hK263
 have le269 := row_le (HS.mu 5 rfl)
 replace HS := HS.freezeN 5 (p := (cF kI A33 (t19.f0))) rfl (fun W_ hm_ h_ => row_C (by rfl) hm_ h_.2.2.2.2.2.2.2.2.2.2.2.2.1)
 dsimp only [List.eraseIdx] at HS
 exact by (
 have le270 := row_le (HS.mu 4 rfl)
 replace HS := HS.freezeN 4 (p := (cF kS62 A265 ((t19.f1.set (x1.f0.getD (wrap64 ((x1.f0.length : Int) - 1)).toNat 0).toNat ((([] : List S62) ++ t202) ++ [t228]))))) rfl (fun W_ hm_ h_ => row_C (by rfl) hm_ h_.2.1)
 dsimp only [List.eraseIdx] at HS
 have le271 := row_le (HS.mu 2 rfl)
 replace HS := HS.freezeN 2 (p := (cF kI A48 (t38.f0))) rfl (fun W_ hm_ h_ => row_C (by rfl) hm_ h_.2.2.2.2.2.2.2.2.2.2.2.2.1)
 dsimp only [List.eraseIdx] at HS
 obtain rfl := os H
 rw [hG56] at Ho58
 exact by (
 replace H : some _ = some _ := Ho58
 obtain ⟨rfl, rfl, rfl⟩ := (by have h_ := os H; simp only [Prod.mk.injEq] at h_; exact h_)
 exact fin3 Try.f46 rfl ⟨_, rfl, resv_box (HS.mu 4 rfl) underlying58 rfl (by kernel_rfl)⟩ ⟨_, rfl, resv_box (HS.mu 3 rfl) underlying67 rfl (by kernel_rfl)⟩ rfl hR_ ⟨_, _, _, _, _, _, rfl, le269, (foot_fresh (HS.footN 2 rfl)), le270, (foot_fresh (HS.footN 1 rfl)), le271, (foot_fresh (HS.footN 0 rfl)), HS.b⟩ )))))))))))))))))))))))))))))))
def spec_l15Cells.b0 (x0 : S58) (x1 : S67) (rec_ : (List S62) → Int → Option ((List S62) × Int)) (k28 : Nat) (xs15 : List S62) (i18 : Int) : Option ((List S62) × Int) := (if i18 < x1.f1 then (if 0 ≤ (wrap64 (Int.tdiv i18 4)) ∧ (wrap64 (Int.tdiv i18 4)) < (x1.f0.length : Int) then (if 0 ≤ (x1.f0.getD (wrap64 (Int.tdiv i18 4)).toNat 0) ∧ (x1.f0.getD (wrap64 (Int.tdiv i18 4)).toNat 0) < (x0.f1.length : Int) then (if 0 ≤ (Int.tmod i18 4) ∧ (Int.tmod i18 4) < ((x0.f1.getD (x1.f0.getD (wrap64 (Int.tdiv i18 4)).toNat 0).toNat []).length : Int) then (if (xs15.length) < 4294967296 then (rec_ (xs15 ++ [((x0.f1.getD (x1.f0.getD (wrap64 (Int.tdiv i18 4)).toNat 0).toNat []).getD (Int.tmod i18 4).toNat o62)]) (wrap64 (i18 + 1))) else none) else none) else none) else none) else (some (xs15, i18)))
def spec_l15Cells.l0 (x0 : S58) (x1 : S67) : Nat → (List S62) → Int → Option ((List S62) × Int)
 | 0, _, _ => none
 | k + 1, xs15, i18 => spec_l15Cells.b0 x0 x1 (spec_l15Cells.l0 x0 x1 k) k xs15 i18
def spec_l15Cells.g (k : Nat) (x0 : S58) (x1 : S67) : Option (List S62) := ((spec_l15Cells.l0 x0 x1 k ([] : List S62) 0).bind (fun oc26 => (some oc26.1)))
theorem spec_l15Cells.runs (k : Nat) (x0 : S58) (A0_0 : Option Addr) (c0_0 : Nat) (A0_1 : Option Addr) (c0_1 : Nat) (x1 : S67) (A1_0 : Option Addr) (c1_0 : Nat) (r : List S62) (ok : Nat → Prop) (w : World) (hr0_0 : Foot (cF kI A0_0 x0.f0) w ok) (hc0_0 : x0.f0.length ≤ c0_0) (hr0_1 : Foot (cF kS62 A0_1 x0.f1) w ok) (hc0_1 : x0.f1.length ≤ c0_1) (hr1_0 : Foot (cF kI A1_0 x1.f0) w ok) (hc1_0 : x1.f0.length ≤ c1_0) (H : spec_l15Cells.g k x0 x1 = some r) :
   Calls prog 118 #[.agg #[.slice A0_0 x0.f0.length c0_0, .slice A0_1 x0.f1.length c0_1], .agg #[.slice A1_0 x1.f0.length c1_0, vi x1.f1]] w fun e w' => ∃ (A0_ : Option Addr) (c0_ : Nat), e = .returned (.slice A0_ r.length c0_) ∧ r.length ≤ c0_ ∧ Foot (cF k62 A0_ r) w' (fun k_ => ok k_ ∨ w.heap.size ≤ k_) ∧ Below w.heap.size w w' := by
 unfold spec_l15Cells.g at H
 have HS : St ok w w [] [(cF kI A0_0 x0.f0), (cF kS62 A0_1 x0.f1), (cF kI A1_0 x1.f0)] [] := St.start (foot_cons hr0_0 (foot_cons hr0_1 (foot_cons hr1_0 foot_nil)))
 refine cw_ (n := 32) func118 fun R_ hR_ => ?_
 refine sr_ fun _ hK1 => ?_
 refine bo_ HS (fun b2 w3 hb2 HS => ?_)
 refine bo_ HS (fun b4 w5 hb4 HS => ?_)
 refine ad_ hK1 ?_
 refine sr_ fun _ hK6 => ?_
 refine WL.lit0 HS rfl rfl (by decide) rfl underlying71 (sz := 2) (by kernel_rfl) (fun v7 w8 HS => ?_)
 replace HS := HS.deriveO (p := (rF k62 ([] : List S62) [])) (fun _ _ _ => Reps.none _ _)
 refine ad_ hK6 ?_
 refine WC.seq fun K9 hK9 => ?_
 refine sr_ fun _ hK10 => ?_
 refine ad_ hK10 ?_
 refine WC.block ?_
 obtain ⟨G11, hG12, oc13, H, Ho14⟩ := open_G H
 let J19 := fun (xs15 : List S62) v16 I17 (i18 : Int) (E_ : Env) (W_ : World) => E_ = [(2, .pointer (some ⟨b2, 0, none⟩)), (3, .pointer (some ⟨b4, 0, none⟩)), (5, v16), (6, vi i18)] ∧ St ok w W_ [rowM w.heap.size 62 2 v16 xs15.length I17, boxM b4 #[.slice A1_0 x1.f0.length c1_0, vi x1.f1] 67, boxM b2 #[.slice A0_0 x0.f0.length c0_0, .slice A0_1 x0.f1.length c0_1] 58] [(rF k62 xs15 I17), (cF kI A0_0 x0.f0), (cF kS62 A0_1 x0.f1), (cF kI A1_0 x1.f0)] []
 have X20 : ∀ E_ W_, (∃ xs15 v16 I17 i18, G11 (xs15, i18) = some r ∧ J19 xs15 v16 I17 i18 E_ W_) → ∀ a, Fits a 32 E_ → K9 a W_ := by
   rintro E_ w21 ⟨xs15, v16, I17, i18, H, rfl, HS⟩
   rw [hG12] at H
   (try dsimp only at H)
   refine hK9 _ _ ?_
   refine sr_ fun _ hK22 => ?_
   refine mv_ ?_
   refine ad_ hK22 ?_
   refine WC.ret ?_
   obtain ⟨A23, c24, rfl⟩ := row_slice (HS.mu 0 rfl)
   have le25 := row_le (HS.mu 0 rfl)
   replace HS := HS.freezeO 0 (p := (cF k62 A23 (xs15))) rfl (fun W_ hm_ h_ => row_C (by rfl) hm_ h_.1)
   dsimp only [List.eraseIdx] at HS
   obtain rfl := os H
   exact fin1 Try.f118 rfl rfl hR_ ⟨_, _, rfl, le25, (foot_old (HS.footO 0 rfl)), HS.b⟩
 clear hK9
 refine WC.loop (fun k_ E_ W_ => ∃ xs15 v16 I17 i18, (∃ o_, spec_l15Cells.l0 x0 x1 k_ xs15 i18 = some o_ ∧ G11 o_ = some r) ∧ J19 xs15 v16 I17 i18 E_ W_) k ⟨([] : List S62), v7, ([]), 0, ⟨_, H, Ho14⟩, rfl, HS⟩ (sb rfl) ?_
 rintro k_ E_ w27 ⟨xs15, v16, I17, i18, ⟨oc13, H, Ho14⟩, rfl, HS⟩
 rcases k_ with _ | k28
 · exact no_ H
 replace H : spec_l15Cells.b0 x0 x1 (spec_l15Cells.l0 x0 x1 k28) k28 xs15 i18 = some oc13 := H
 unfold spec_l15Cells.b0 at H
 refine WC.seq fun _ hK29 => ?_
 refine sr_ fun _ hK30 => ?_
 refine mv_ ?_
 refine v_ (fa_ underlying67) ?_
 refine v_ (lb_ (HS.mu 1 rfl) underlying3 rfl) ?_
 refine b_ bin_lss ?_
 refine dn_ hK30 ?_
 rcases eti_ H with ⟨c31, H⟩ | ⟨c31, H⟩
 · refine wn_ (dF c31) (WC.exit ?_)
   obtain rfl := os H
   exact wv_ iq X20 ⟨xs15, v16, I17, i18, Ho14, rfl, HS⟩
 refine wy_ (dT c31) (WC.skip (via_ hK29 (WC.seq fun _ hK32 => ?_)))
 refine WC.block (WC.drawW HS [boxM b4 #[.slice A1_0 x1.f0.length c1_0, vi x1.f1] 67, boxM b2 #[.slice A0_0 x0.f0.length c0_0, .slice A0_1 x0.f1.length c0_1] 58] (fun _ HS => ⟨(HS.mu 1 rfl), (HS.mu 2 rfl), trivial⟩) [] rfl rfl (fun w33 HS => ?_))
 refine dm_ 0 ?_
 refine df_ 1 underlying58 ?_
 refine df_ 3 underlying67 ?_
 refine dm_ 5 ?_
 refine dp_ 6 (fun _ => Run.bin rfl rfl rfl (bin_quo64 (show (4 : Int) ≠ 0 by decide))) ?_
 refine dm_ 11 ?_
 refine dp_ 12 (fun _ => Run.bin rfl rfl rfl (bin_rem (show (4 : Int) ≠ 0 by decide))) ?_
 refine dt_ 2 ⟨HS.nowO, HS.nowN, ⟨(HS.mu 1 rfl), (HS.mu 2 rfl), trivial⟩⟩ (fun w_ hw_ => Run.load rfl rfl underlying56 rfl (box_cell hw_.2.2.2.1 rfl)) ?_
 refine dt_ 4 ⟨HS.nowO, HS.nowN, ⟨(HS.mu 1 rfl), (HS.mu 2 rfl), trivial⟩⟩ (fun w_ hw_ => Run.load rfl rfl underlying22 rfl (box_cell hw_.2.2.1 rfl)) ?_
 obtain ⟨⟨q34, q35⟩, H⟩ := if_some H
 obtain ⟨ad36, rfl⟩ := C_open (HS.getO 3 rfl) (lenpos q34 q35)
 refine di_ 7 underlying22 1 q34 q35 ?_
 refine dt_ 8 ⟨HS.nowO, HS.nowN, ⟨(HS.mu 1 rfl), (HS.mu 2 rfl), trivial⟩⟩ (fun w_ hw_ => Run.load rfl rfl underlying3 rfl (int_cell (AllF.get 3 rfl hw_.1) (wrap64 (Int.tdiv i18 4)) q34 q35)) ?_
 obtain ⟨⟨q37, q38⟩, H⟩ := if_some H
 obtain ⟨ad39, rfl⟩ := C_open (HS.getO 2 rfl) (lenpos q37 q38)
 refine di_ 9 underlying56 1 q37 q38 ?_
 obtain ⟨A40, c41, le42, HS⟩ := HS.slO 2 rfl (x1.f0.getD (wrap64 (Int.tdiv i18 4)).toNat 0) q37 q38
 refine dv_ 10 (w_none rfl) (Run.load rfl rfl underlying71 rfl (HS.getO 1 rfl)) ⟨HS.nowO.2.2, HS.nowN, ⟨(HS.mu 1 rfl), (HS.mu 2 rfl), trivial⟩⟩ ?_
 obtain ⟨⟨q43, q44⟩, H⟩ := if_some H
 obtain ⟨ad45, rfl⟩ := C_open (HS.getO 0 rfl) (lenpos q43 q44)
 refine di_ 13 underlying71 2 q43 q44 ?_
 obtain ⟨e46, el47, HS⟩ := HS.elO 0 rfl (by decide) o62 (Int.tmod i18 4) q43 q44
 obtain ⟨A48, c49, hc50, le51, HS⟩ := HS.eO 0 rfl at62_0
 obtain ⟨A52, c53, hc54, le55, HS⟩ := HS.eO 1 rfl at62_1
 refine dv_ 14 (w_none rfl) (Run.loadS (cs := [.slice A48 (((x0.f1.getD (x1.f0.getD (wrap64 (Int.tdiv i18 4)).toNat 0).toNat []).getD (Int.tmod i18 4).toNat o62).f0.length) c49, .slice A52 (((x0.f1.getD (x1.f0.getD (wrap64 (Int.tdiv i18 4)).toNat 0).toNat []).getD (Int.tmod i18 4).toNat o62).f1.length) c53]) rfl rfl underlying62 rfl (by kernel_rfl) (cells_part (HS.getO 2 rfl).2 (part_cons hc50 (part_cons hc54 part_nil)))) ⟨HS.nowO.2.2.2.2.2, HS.nowN, ⟨(HS.mu 1 rfl), (HS.mu 2 rfl), trivial⟩⟩ ?_
 have HS1 := HS.below (below_alloc (Below.refl _ _) (.cells #[.slice A48 (((x0.f1.getD (x1.f0.getD (wrap64 (Int.tdiv i18 4)).toNat 0).toNat []).getD (Int.tmod i18 4).toNat o62).f0.length) c49, .slice A52 (((x0.f1.getD (x1.f0.getD (wrap64 (Int.tdiv i18 4)).toNat 0).toNat []).getD (Int.tmod i18 4).toNat o62).f1.length) c53] 62))
 refine dv_ 15 (w_none rfl) (Run.lit1 (z := (.agg #[sn, sn])) (vs := [.slice A48 (((x0.f1.getD (x1.f0.getD (wrap64 (Int.tdiv i18 4)).toNat 0).toNat []).getD (Int.tmod i18 4).toNat o62).f0.length) c49, .slice A52 (((x0.f1.getD (x1.f0.getD (wrap64 (Int.tdiv i18 4)).toNat 0).toNat []).getD (Int.tmod i18 4).toNat o62).f1.length) c53]) rfl rfl rfl underlying71 (by kernel_rfl) (ble_ rfl) (ble_ rfl)) ⟨HS1.nowO.2.2.2.2.2, HS1.nowN, ⟨(HS1.mu 1 rfl), (HS1.mu 2 rfl), trivial⟩⟩ ?_
 obtain ⟨q56, H⟩ := if_some H
 refine WD.append 16 (w_none rfl) HS1 0 rfl rfl (.agg #[sn, sn]) 48 underlying71 (by kernel_rfl) rfl (by decide) (by decide) rfl rfl [.slice A48 (((x0.f1.getD (x1.f0.getD (wrap64 (Int.tdiv i18 4)).toNat 0).toNat []).getD (Int.tmod i18 4).toNat o62).f0.length) c49, .slice A52 (((x0.f1.getD (x1.f0.getD (wrap64 (Int.tdiv i18 4)).toNat 0).toNat []).getD (Int.tmod i18 4).toNat o62).f1.length) c53] rfl (lit_news _ _ _) (oneL rfl) (by omega) ((xs15 ++ [((x0.f1.getD (x1.f0.getD (wrap64 (Int.tdiv i18 4)).toNat 0).toNat []).getD (Int.tmod i18 4).toNat o62)]).length) (by simp) (fun v57 w58 I59 hI60 HS => ?_)
 dsimp only [List.set] at HS
 replace HS := HS.deriveO (p := (rF k62 (xs15 ++ [((x0.f1.getD (x1.f0.getD (wrap64 (Int.tdiv i18 4)).toNat 0).toNat []).getD (Int.tmod i18 4).toNat o62)]) I59)) (fun W_ hO_ hN_ => reps_snoc hI60 hO_.2.2.2.2.2.1 (k62_mk _ ((x0.f1.getD (x1.f0.getD (wrap64 (Int.tdiv i18 4)).toNat 0).toNat []).getD (Int.tmod i18 4).toNat o62) (le51) hO_.2.1 (le55) hO_.1))
 clear HS1
 refine ⟨⟨HS.nowO.2.2.2.2.2.2, HS.nowN, ⟨(HS.mu 1 rfl), (HS.mu 2 rfl), trivial⟩⟩, ?_⟩
 refine dp_ 17 (fun _ => Run.assign rfl rfl) ?_
 refine dd_ (via_ hK32 (rg_ (mv_ ?_)))
 refine b_ bin_add64 ?_
 refine as_ ?_
 refine WL.done ?_
 exact wr_ k28 iq ⟨(xs15 ++ [((x0.f1.getD (x1.f0.getD (wrap64 (Int.tdiv i18 4)).toNat 0).toNat []).getD (Int.tmod i18 4).toNat o62)]), v57, I59, (wrap64 (i18 + 1)), ⟨_, H, Ho14⟩, rfl, (St.pk HS [0, 7, 8, 9] [] rfl rfl)⟩
def spec_CellsOf.g (k : Nat) (x0 : S58) (x1 : S67) : Option ((List S62) × Bool) := ((spec_TableOk.g k (⟨x0.f0, x0.f1⟩ : S58) (⟨x1.f0, x1.f1⟩ : S67)).bind fun t8 => (if t8 = true then ((spec_l15Cells.g k (⟨x0.f0, x0.f1⟩ : S58) (⟨x1.f0, x1.f1⟩ : S67)).bind fun t13 => ((spec_l14CopyCells.g k t13).bind fun t20 => (some (t20, true)))) else (some (([] : List S62), false))))
theorem spec_CellsOf.runs (k : Nat) (x0 : S58) (A0_0 : Option Addr) (c0_0 : Nat) (A0_1 : Option Addr) (c0_1 : Nat) (x1 : S67) (A1_0 : Option Addr) (c1_0 : Nat) (r1 : List S62) (r2 : Bool) (w : World) (hr0_0 : kI.C w A0_0 x0.f0.length x0.f0) (hc0_0 : x0.f0.length ≤ c0_0) (hr0_1 : kS62.C w A0_1 x0.f1.length x0.f1) (hc0_1 : x0.f1.length ≤ c0_1) (hr1_0 : kI.C w A1_0 x1.f0.length x1.f0) (hc1_0 : x1.f0.length ≤ c1_0) (H : spec_CellsOf.g k x0 x1 = some (r1, r2)) :
   Calls prog 48 #[.agg #[.slice A0_0 x0.f0.length c0_0, .slice A0_1 x0.f1.length c0_1], .agg #[.slice A1_0 x1.f0.length c1_0, vi x1.f1]] w fun e w' => ∃ (A0_ : Option Addr) (c0_ : Nat), e = .returned (.tuple #[.slice A0_ r1.length c0_, .bool r2]) ∧ r1.length ≤ c0_ ∧ Foot (cF k62 A0_ r1) w' (fun k_ => w.heap.size ≤ k_) ∧ Below w.heap.size w w' := by
 unfold spec_CellsOf.g at H
 have HS : St (fun _ => True) w w [] [(cF kI A0_0 x0.f0), (cF kS62 A0_1 x0.f1), (cF kI A1_0 x1.f0)] [] := St.start (foot_cons (foot_C (Kd.heap_int _) hr0_0) (foot_cons (foot_C (Kd.heap_slice _ h62) hr0_1) (foot_cons (foot_C (Kd.heap_int _) hr1_0) foot_nil)))
 refine cw_ (n := 15) func48 fun R_ hR_ => ?_
 refine sr_ fun _ hK1 => ?_
 refine bo_ HS (fun b2 w3 hb2 HS => ?_)
 refine bo_ HS (fun b4 w5 hb4 HS => ?_)
 refine as_ ?_
 refine ad_ hK1 ?_
 refine WC.seq fun _ hK6 => ?_
 refine sr_ fun _ hK7 => ?_
 refine v_ (ls_ (HS.mu 1 rfl) underlying58 part_all) ?_
 refine v_ (ls_ (HS.mu 0 rfl) underlying67 part_all) ?_
 obtain ⟨t8, ha9, H⟩ := bind_some H
 refine cs_ HS func52 (spec_TableOk.runs k (⟨x0.f0, x0.f1⟩ : S58) A0_0 c0_0 A0_1 c0_1 (⟨x1.f0, x1.f1⟩ : S67) A1_0 c1_0 t8 _ (HS.getO 0 rfl) hc0_0 (HS.getO 1 rfl) hc0_1 (HS.getO 2 rfl) hc1_0 ha9) (fun w10 HS => ?_)
 clear ha9
 refine nt_ ?_
 refine dn_ hK7 ?_
 rcases eti_ H with ⟨c11, H⟩ | ⟨c11, H⟩
 · refine wy_ (nB (bF c11)) (sr_ fun _ hK30 => ?_)
   refine WL.lit0 HS rfl rfl (by decide) rfl underlying71 (sz := 2) (by kernel_rfl) (fun v31 w32 HS => ?_)
   replace HS := HS.deriveN (p := (rF k62 ([] : List S62) [])) (fun _ _ => Reps.none _ _)
   refine as_ ?_
   refine ad_ hK30 ?_
   refine WC.ret ?_
   obtain ⟨A33, c34, rfl⟩ := row_slice (HS.mu 0 rfl)
   have le35 := row_le (HS.mu 0 rfl)
   replace HS := HS.freezeN 0 (p := (fun W => k62.C W A33 0 (([] : List S62)))) rfl (fun W_ hm_ h_ => row_C (by simp) hm_ h_.1)
   dsimp only [List.eraseIdx] at HS
   obtain ⟨rfl, rfl⟩ := Prod.mk.inj (os H)
   exact fin2 Try.f48 rfl rfl rfl hR_ ⟨_, _, rfl, le35, (foot_fresh (HS.footN 0 rfl)), HS.b⟩
 refine wn_ (nB c11) (WC.skip (via_ hK6 (sr_ fun _ hK12 => ?_)))
 refine v_ (ls_ (HS.mu 1 rfl) underlying58 part_all) ?_
 refine v_ (ls_ (HS.mu 0 rfl) underlying67 part_all) ?_
 obtain ⟨t13, ha14, H⟩ := bind_some H
 refine c_ func118 (spec_l15Cells.runs k (⟨x0.f0, x0.f1⟩ : S58) A0_0 c0_0 A0_1 c0_1 (⟨x1.f0, x1.f1⟩ : S67) A1_0 c1_0 t13 _ _ (HS.footO 0 rfl) hc0_0 (HS.footO 1 rfl) hc0_1 (HS.footO 2 rfl) hc1_0 ha14) ?_
 clear ha14
 rintro _ w15 ⟨A16, c17, rfl, le18, hf19, hb⟩
 replace HS := HS.newOs hb (foot_cons hf19 foot_nil)
 refine ⟨_, rfl, ?_⟩
 clear hb
 obtain ⟨t20, ha21, H⟩ := bind_some H
 refine c_ func113 (spec_l14CopyCells.runs k A16 c17 t13 t20 _ (HS.getO 0 rfl) le18 ha21) ?_
 clear ha21
 rintro _ w22 ⟨v23, bl24, rfl, hO_, hb⟩
 replace HS := HS.got hb hO_
 dsimp only [List.cons_append, List.nil_append] at HS
 clear hO_
 obtain ⟨I25, bl26, HS⟩ := HS.unseal (sz := 2) rfl
 replace HS := HS.freezeN 1 (p := (rF k62 t20 I25)) rfl (fun _ hP_ _ => RepsB.reps hP_)
 dsimp only [List.eraseIdx] at HS
 refine ⟨_, rfl, ?_⟩
 clear hb
 refine as_ ?_
 refine ad_ hK12 ?_
 refine WC.ret ?_
 obtain ⟨A27, c28, rfl⟩ := row_slice (HS.mu 0 rfl)
 have le29 := row_le (HS.mu 0 rfl)
 replace HS := HS.freezeN 0 (p := (cF k62 A27 (t20))) rfl (fun W_ hm_ h_ => row_C (by rfl) hm_ h_.1)
 dsimp only [List.eraseIdx] at HS
 obtain ⟨rfl, rfl⟩ := Prod.mk.inj (os H)
 exact fin2 Try.f48 rfl rfl rfl hR_ ⟨_, _, rfl, le29, (foot_fresh (HS.footN 0 rfl)), HS.b⟩
def spec_l01New.b0 (l0 : List Int) (rec_ : Int → Int → Option (Int × Int)) (k19 : Nat) (i9 : Int) (i10 : Int) : Option (Int × Int) := (if i10 < (l0.length : Int) then (if i10 < 4000 then (if 0 ≤ i10 ∧ i10 < (l0.length : Int) then (rec_ (Go.bits .and .i64 (wrap64 ((wrap64 ((wrap64 (i9 * 131)) + (wrap64 ((l0.getD i10.toNat 0))))) + 7)) 1073741823) (wrap64 (i10 + 1))) else none) else (some (i9, i10))) else (some (i9, i10)))
def spec_l01New.l0 (l0 : List Int) : Nat → Int → Int → Option (Int × Int)
 | 0, _, _ => none
 | k + 1, i9, i10 => spec_l01New.b0 l0 (spec_l01New.l0 l0 k) k i9 i10
def spec_l01New.g (k : Nat) (l0 : List Int) : Option S146 := ((spec_l01New.l0 l0 k (wrap64 (11201 + (l0.length : Int))) 0).bind (fun oc17 => (some (⟨l0, 0, oc17.1⟩ : S146))))
theorem spec_l01New.runs (k : Nat) (A0 : Option Addr) (c0 : Nat) (l0 : List Int) (r : S146) (w : World) (hr0 : kU.C w A0 l0.length l0) (hc0 : l0.length ≤ c0) (H : spec_l01New.g k l0 = some r) :
   Calls prog 94 #[.slice A0 l0.length c0] w fun e w' => ∃ (b0_ : Nat), e = .returned (.pointer (some ⟨b0_, 0, none⟩)) ∧ w.heap.size ≤ b0_ ∧ w'.heap[b0_]? = some (.cells #[.slice A0 l0.length c0, vi r.f1, vi r.f2] 146 (0, 0)) ∧ Below w.heap.size w w' := by
 unfold spec_l01New.g at H
 have HS : St (fun _ => True) w w [] [(cF kU A0 l0)] [] := St.start (foot_cons (foot_C (Kd.heap_int _) hr0) foot_nil)
 refine cw_ (n := 32) func94 fun R_ hR_ => ?_
 refine sr_ fun _ hK1 => ?_
 refine ad_ hK1 ?_
 refine sr_ fun _ hK2 => ?_
 refine mv_ ?_
 refine ln_ underlying48 ?_
 refine b_ bin_add64 ?_
 refine ad_ hK2 ?_
 refine WC.seq fun K3 hK3 => ?_
 refine sr_ fun _ hK4 => ?_
 refine ad_ hK4 ?_
 refine WC.block ?_
 obtain ⟨G5, hG6, oc7, H, Ho8⟩ := open_G H
 let J11 := fun (i9 : Int) (i10 : Int) (E_ : Env) (W_ : World) => E_ = [(0, .slice A0 l0.length c0), (3, vi i9), (4, vi i10)] ∧ St (fun _ => True) w W_ [] [(cF kU A0 l0)] []
 have X12 : ∀ E_ W_, (∃ i9 i10, G5 (i9, i10) = some r ∧ J11 i9 i10 E_ W_) → ∀ a, Fits a 32 E_ → K3 a W_ := by
   rintro E_ w13 ⟨i9, i10, H, rfl, HS⟩
   rw [hG6] at H
   (try dsimp only at H)
   refine hK3 _ _ ?_
   refine sr_ fun _ hK14 => ?_
   refine mv_ ?_
   refine mv_ ?_
   refine v_ (Run.build (cells := #[.slice A0 l0.length c0, vi 0, vi i9]) rfl [(0, .slice A0 l0.length c0), (2, vi i9)] ⟨⟨rfl, rfl⟩, ⟨⟨rfl, rfl⟩, trivial⟩⟩ (by kernel_rfl)) ?_
   refine bo_ HS (fun b15 w16 hb15 HS => ?_)
   refine ad_ hK14 ?_
   obtain rfl := os H
   exact rt1 Try.f94 rfl rfl hR_ ⟨_, rfl, hb15, (HS.mu 0 rfl), HS.b⟩
 clear hK3
 refine WC.loop (fun k_ E_ W_ => ∃ i9 i10, (∃ o_, spec_l01New.l0 l0 k_ i9 i10 = some o_ ∧ G5 o_ = some r) ∧ J11 i9 i10 E_ W_) k ⟨(wrap64 (11201 + (l0.length : Int))), 0, ⟨_, H, Ho8⟩, rfl, HS⟩ (sb rfl) ?_
 rintro k_ E_ w18 ⟨i9, i10, ⟨oc7, H, Ho8⟩, rfl, HS⟩
 rcases k_ with _ | k19
 · exact no_ H
 replace H : spec_l01New.b0 l0 (spec_l01New.l0 l0 k19) k19 i9 i10 = some oc7 := H
 unfold spec_l01New.b0 at H
 refine WC.seq fun _ hK20 => ?_
 refine sr_ fun _ hK21 => ?_
 refine mv_ ?_
 refine mv_ ?_
 refine ln_ underlying48 ?_
 refine b_ bin_lss ?_
 refine mv_ ?_
 rcases eti_ H with ⟨c22, H⟩ | ⟨c22, H⟩
 · refine off_ (c' := false) (dF c22) ?_
   refine off_ (c' := false) (dF c22) ?_
   refine v_ (Run.pickF rfl rfl (dF c22) rfl) ?_
   refine dn_ hK21 (wn_ rfl ?_)
   refine WC.exit ?_
   obtain rfl := os H
   exact wv_ iq X12 ⟨i9, i10, Ho8, rfl, HS⟩
 refine on_ (dT c22) (mv_ ?_)
 refine on_ (dT c22) (b_ bin_lss ?_)
 refine v_ (Run.pickT rfl rfl (dT c22) rfl) ?_
 refine dn_ hK21 ?_
 rcases eti_ H with ⟨c23, H⟩ | ⟨c23, H⟩
 · refine wn_ (dF c23) (WC.exit ?_)
   obtain rfl := os H
   exact wv_ iq X12 ⟨i9, i10, Ho8, rfl, HS⟩
 refine wy_ (dT c23) (WC.skip (via_ hK20 (WC.seq fun _ hK24 => ?_)))
 refine WC.block (rg_ (mv_ ?_))
 refine b_ bin_mul64 ?_
 refine mv_ ?_
 refine mv_ ?_
 obtain ⟨⟨q25, q26⟩, H⟩ := if_some H
 obtain ⟨ad27, rfl⟩ := C_open (HS.getO 0 rfl) (lenpos q25 q26)
 refine v_ (ia_ underlying48 1 q25 q26) ?_
 refine v_ (Run.load rfl rfl underlying5 rfl (int_cell (HS.getO 0 rfl) i10 q25 q26)) ?_
 refine v_ (Run.conv64 rfl underlying5 underlying3 rfl) ?_
 refine b_ bin_add64 ?_
 refine b_ bin_add64 ?_
 refine b_ bin_and ?_
 refine ad_ hK24 ?_
 refine rg_ (mv_ ?_)
 refine b_ bin_add64 ?_
 refine as_ ?_
 refine WL.done ?_
 exact wr_ k19 iq ⟨(Go.bits .and .i64 (wrap64 ((wrap64 ((wrap64 (i9 * 131)) + (wrap64 ((l0.getD i10.toNat 0))))) + 7)) 1073741823), (wrap64 (i10 + 1)), ⟨_, H, Ho8⟩, rfl, HS⟩
def spec_l01Byte.g (k : Nat) (x0 : S146) : Option (Int × S146) := (if x0.f1 < (x0.f0.length : Int) then (if 0 ≤ x0.f1 ∧ x0.f1 < (x0.f0.length : Int) then (some (Go.bits .and .i64 (wrap64 ((Go.bits .and .i64 (Go.bits .xor .i64 ((wrap64 ((wrap64 (x0.f2 * 6364136223846793005)) + 1442695040888963407)) / 8589934592) ((wrap64 ((wrap64 (x0.f2 * 6364136223846793005)) + 1442695040888963407)) / 35184372088832)) 255) + (wrap64 ((x0.f0.getD x0.f1.toNat 0))))) 255, (⟨x0.f0, wrap64 (x0.f1 + 1), wrap64 ((wrap64 (x0.f2 * 6364136223846793005)) + 1442695040888963407)⟩ : S146))) else none) else (some (Go.bits .and .i64 (Go.bits .xor .i64 ((wrap64 ((wrap64 (x0.f2 * 6364136223846793005)) + 1442695040888963407)) / 8589934592) ((wrap64 ((wrap64 (x0.f2 * 6364136223846793005)) + 1442695040888963407)) / 35184372088832)) 255, (⟨x0.f0, x0.f1, wrap64 ((wrap64 (x0.f2 * 6364136223846793005)) + 1442695040888963407)⟩ : S146))))
theorem spec_l01Byte.runs (k : Nat) (b0 : Nat) (x0 : S146) (A0_0 : Option Addr) (c0_0 : Nat) (bs_ : List Nat) (r1 : Int) (y_ : S146) (w0 w : World) (hB_ : Below w0.heap.size w0 w) (hn_ : (b0 :: bs_).Nodup) (hl_ : ∀ k, k ∈ b0 :: bs_ → w0.heap.size ≤ k ∧ k < w.heap.size) (hr0_0 : Foot (cF kU A0_0 x0.f0) w (fun k_ => k_ ∉ b0 :: bs_)) (hc0_0 : x0.f0.length ≤ c0_0) (hb0 : w.heap[b0]? = some (.cells #[.slice A0_0 x0.f0.length c0_0, vi x0.f1, vi x0.f2] 146 (0, 0))) (H : spec_l01Byte.g k x0 = some (r1, y_)) :
   Calls prog 104 #[.pointer (some ⟨b0, 0, none⟩)] w fun e w' => e = .returned (vi r1) ∧ w'.heap[b0]? = some (.cells #[.slice A0_0 x0.f0.length c0_0, vi y_.f1, vi y_.f2] 146 (0, 0)) ∧ RestOf w w' b0 ∧ Below w0.heap.size w0 w' := by
 unfold spec_l01Byte.g at H
 have HS : St (fun _ => True) w0 w [boxM b0 #[.slice A0_0 x0.f0.length c0_0, vi x0.f1, vi x0.f2] 146, keepM w bs_] [(frameF w b0 bs_), (cF kU A0_0 x0.f0)] [] := St.startM hB_ hn_ hl_ hb0 (foot_cons hr0_0 foot_nil)
 refine cw_ (n := 58) func104 fun R_ hR_ => ?_
 refine sr_ fun _ hK1 => ?_
 refine ad_ hK1 ?_
 refine sr_ fun _ hK2 => ?_
 refine mv_ ?_
 refine mv_ ?_
 refine v_ (Run.nilCheck rfl rfl) ?_
 refine v_ (fa_ underlying146) ?_
 refine v_ (lb_ (HS.mu 0 rfl) underlying3 rfl) ?_
 refine b_ bin_mul64 ?_
 refine b_ bin_add64 ?_
 refine v_ (Run.nilCheck rfl rfl) ?_
 refine v_ (fa_ underlying146) ?_
 refine WL.store HS 0 rfl rfl rfl rfl rfl rfl rfl (by kernel_rfl) (ble_ rfl) (cs' := #[.slice A0_0 x0.f0.length c0_0, vi x0.f1, vi (wrap64 ((wrap64 (x0.f2 * 6364136223846793005)) + 1442695040888963407))]) (by kernel_rfl) (fun w3 HS => ?_)
 dsimp only [List.set] at HS
 refine dn_ hK2 (WC.seq fun _ hK4 => ?_)
 refine WC.drawS HS [] rfl rfl (fun w5 HS => ?_)
 have HB := Below.refl w5.heap.size w5
 have HSW := HS
 refine dm_ 0 ?_
 refine dp_ 1 (fun _ => Run.nilCheck rfl rfl) ?_
 refine df_ 2 underlying146 ?_
 refine dm_ 5 ?_
 refine dp_ 6 (fun _ => Run.nilCheck rfl rfl) ?_
 refine df_ 7 underlying146 ?_
 refine bl_ 3 HS (Below.refl _ _) 0 underlying3 rfl ?_
 refine dp_ 4 (fun _ => Run.shr (k := .i64) (j := 33) rfl rfl rfl 8589934592 (by decide) (by decide)) ?_
 refine bl_ 8 HS (Below.refl _ _) 0 underlying3 rfl ?_
 refine dp_ 9 (fun _ => Run.shr (k := .i64) (j := 45) rfl rfl rfl 35184372088832 (by decide) (by decide)) ?_
 refine dp_ 10 (fun _ => Run.bin rfl rfl rfl bin_xor) ?_
 refine dp_ 11 (fun _ => Run.bin rfl rfl rfl bin_and) ?_
 refine dp_ 12 (fun _ => Run.assign rfl rfl) ?_
 refine dd_ ?_
 clear HB HSW
 refine via_ hK4 (WC.seq fun _ hK6 => ?_)
 refine WC.seq fun _ hK7 => ?_
 refine WC.drawS HS [] rfl rfl (fun w8 HS => ?_)
 have HB := Below.refl w8.heap.size w8
 have HSW := HS
 refine dm_ 0 ?_
 refine dp_ 1 (fun _ => Run.nilCheck rfl rfl) ?_
 refine df_ 2 underlying146 ?_
 refine dm_ 4 ?_
 refine dp_ 5 (fun _ => Run.nilCheck rfl rfl) ?_
 refine df_ 6 underlying146 ?_
 refine bl_ 3 HS (Below.refl _ _) 0 underlying3 rfl ?_
 refine bl_ 7 HS (Below.refl _ _) 0 underlying48 rfl ?_
 refine dp_ 8 (fun _ => Run.len (ts := #[]) rfl underlying48 rfl) ?_
 refine dp_ 9 (fun _ => Run.bin rfl rfl rfl bin_lss) ?_
 refine dd_ ?_
 clear HB HSW
 refine via_ hK7 ?_
 rcases eti_ H with ⟨c9, H⟩ | ⟨c9, H⟩
 · refine wn_ (dF c9) (WC.skip (via_ hK6 (sr_ fun _ hK17 => ?_)))
   refine mv_ ?_
   refine ad_ hK17 ?_
   refine WC.ret ?_
   obtain ⟨rfl, rfl⟩ := Prod.mk.inj (os H)
   have HSf := HS
   exact fin1 Try.f104 rfl rfl hR_ ⟨rfl, (HSf.mu 0 rfl), (rest_of (HSf.getO 0 rfl) (HSf.mu 1 rfl)), HSf.b⟩
 refine wy_ (dT c9) (WC.seq fun _ hK10 => ?_)
 refine WC.drawS HS [] rfl rfl (fun w11 HS => ?_)
 have HB := Below.refl w11.heap.size w11
 have HSW := HS
 refine dm_ 0 ?_
 refine dm_ 1 ?_
 refine dp_ 2 (fun _ => Run.nilCheck rfl rfl) ?_
 refine df_ 3 underlying146 ?_
 refine dm_ 5 ?_
 refine dp_ 6 (fun _ => Run.nilCheck rfl rfl) ?_
 refine df_ 7 underlying146 ?_
 refine bl_ 4 HS (Below.refl _ _) 0 underlying48 rfl ?_
 refine bl_ 8 HS (Below.refl _ _) 0 underlying3 rfl ?_
 obtain ⟨⟨q12, q13⟩, H⟩ := if_some H
 obtain ⟨ad14, rfl⟩ := C_open (HS.getO 1 rfl) (lenpos q12 q13)
 refine di_ 9 underlying48 1 q12 q13 ?_
 refine dt_ 10 (Below.refl _ _) (fun w_ hw_ => Run.load rfl rfl underlying5 rfl (int_cell ((HS.below hw_).getO 1 rfl) x0.f1 q12 q13)) ?_
 refine dp_ 11 (fun _ => Run.conv64 rfl underlying5 underlying3 rfl) ?_
 refine dp_ 12 (fun _ => Run.bin rfl rfl rfl bin_add64) ?_
 refine dp_ 13 (fun _ => Run.bin rfl rfl rfl bin_and) ?_
 refine dp_ 14 (fun _ => Run.assign rfl rfl) ?_
 refine dd_ ?_
 clear HB HSW
 refine via_ hK10 (rg_ (mv_ ?_))
 refine mv_ ?_
 refine v_ (Run.nilCheck rfl rfl) ?_
 refine v_ (fa_ underlying146) ?_
 refine v_ (lb_ (HS.mu 0 rfl) underlying3 rfl) ?_
 refine b_ bin_add64 ?_
 refine v_ (Run.nilCheck rfl rfl) ?_
 refine v_ (fa_ underlying146) ?_
 refine WL.store HS 0 rfl rfl rfl rfl rfl rfl rfl (by kernel_rfl) (ble_ rfl) (cs' := #[.slice (some ad14) x0.f0.length c0_0, vi (wrap64 (x0.f1 + 1)), vi (wrap64 ((wrap64 (x0.f2 * 6364136223846793005)) + 1442695040888963407))]) (by kernel_rfl) (fun w15 HS => ?_)
 dsimp only [List.set] at HS
 refine dn_ hK6 (sr_ fun _ hK16 => ?_)
 refine mv_ ?_
 refine ad_ hK16 ?_
 refine WC.ret ?_
 obtain ⟨rfl, rfl⟩ := Prod.mk.inj (os H)
 have HSf := HS
 exact fin1 Try.f104 rfl rfl hR_ ⟨rfl, (HSf.mu 0 rfl), (rest_of (HSf.getO 0 rfl) (HSf.mu 1 rfl)), HSf.b⟩
def spec_l01Below.g (k : Nat) (x0 : S146) (a1 : Int) : Option (Int × S146) := (if a1 ≤ 0 then (some (0, (⟨x0.f0, x0.f1, x0.f2⟩ : S146))) else (if a1 ≤ 256 then ((spec_l01Byte.g k (⟨x0.f0, x0.f1, x0.f2⟩ : S146)).bind fun t10 => (if a1 ≠ 0 then (some (Int.tmod t10.1 a1, (⟨x0.f0, t10.2.f1, t10.2.f2⟩ : S146))) else none)) else ((spec_l01Byte.g k (⟨x0.f0, x0.f1, x0.f2⟩ : S146)).bind fun t15 => ((spec_l01Byte.g k (⟨x0.f0, t15.2.f1, t15.2.f2⟩ : S146)).bind fun t19 => ((spec_l01Byte.g k (⟨x0.f0, t19.2.f1, t19.2.f2⟩ : S146)).bind fun t23 => ((spec_l01Byte.g k (⟨x0.f0, t23.2.f1, t23.2.f2⟩ : S146)).bind fun t27 => (if a1 ≠ 0 then (some (Int.tmod (wrap64 ((wrap64 ((wrap64 ((wrap64 (t15.1 * 16777216)) + (wrap64 (t19.1 * 65536)))) + (wrap64 (t23.1 * 256)))) + t27.1)) a1, (⟨x0.f0, t27.2.f1, t27.2.f2⟩ : S146))) else none)))))))
theorem spec_l01Below.runs (k : Nat) (b0 : Nat) (x0 : S146) (A0_0 : Option Addr) (c0_0 : Nat) (a1 : Int) (bs_ : List Nat) (r1 : Int) (y_ : S146) (w0 w : World) (hB_ : Below w0.heap.size w0 w) (hn_ : (b0 :: bs_).Nodup) (hl_ : ∀ k, k ∈ b0 :: bs_ → w0.heap.size ≤ k ∧ k < w.heap.size) (hr0_0 : Foot (cF kU A0_0 x0.f0) w (fun k_ => k_ ∉ b0 :: bs_)) (hc0_0 : x0.f0.length ≤ c0_0) (hb0 : w.heap[b0]? = some (.cells #[.slice A0_0 x0.f0.length c0_0, vi x0.f1, vi x0.f2] 146 (0, 0))) (H : spec_l01Below.g k x0 a1 = some (r1, y_)) :
   Calls prog 95 #[.pointer (some ⟨b0, 0, none⟩), vi a1] w fun e w' => e = .returned (vi r1) ∧ w'.heap[b0]? = some (.cells #[.slice A0_0 x0.f0.length c0_0, vi y_.f1, vi y_.f2] 146 (0, 0)) ∧ RestOf w w' b0 ∧ Below w0.heap.size w0 w' := by
 unfold spec_l01Below.g at H
 have HS : St (fun _ => True) w0 w [boxM b0 #[.slice A0_0 x0.f0.length c0_0, vi x0.f1, vi x0.f2] 146, keepM w bs_] [(frameF w b0 bs_), (cF kU A0_0 x0.f0)] [] := St.startM hB_ hn_ hl_ hb0 (foot_cons hr0_0 foot_nil)
 refine cw_ (n := 37) func95 fun R_ hR_ => ?_
 refine sr_ fun _ hK1 => ?_
 refine ad_ hK1 ?_
 refine WC.seq fun _ hK2 => ?_
 refine sr_ fun _ hK3 => ?_
 refine mv_ ?_
 refine b_ bin_leq ?_
 refine dn_ hK3 ?_
 rcases ite_ H with ⟨c4, H⟩ | ⟨c4, H⟩
 · refine wy_ (dT c4) (sr_ fun _ hK5 => ?_)
   refine ad_ hK5 ?_
   refine WC.ret ?_
   obtain ⟨rfl, rfl⟩ := Prod.mk.inj (os H)
   have HSf := HS
   exact fin1 Try.f95 rfl rfl hR_ ⟨rfl, (HSf.mu 0 rfl), (rest_of (HSf.getO 0 rfl) (HSf.mu 1 rfl)), HSf.b⟩
 refine wn_ (dF c4) (WC.skip (via_ hK2 (WC.seq fun _ hK6 => ?_)))
 refine sr_ fun _ hK7 => ?_
 refine mv_ ?_
 refine b_ bin_leq ?_
 refine dn_ hK7 ?_
 rcases ite_ H with ⟨c8, H⟩ | ⟨c8, H⟩
 · refine wy_ (dT c8) (sr_ fun _ hK9 => ?_)
   refine mv_ ?_
   obtain ⟨t10, ha11, H⟩ := bind_some H
   refine c_ func104 (spec_l01Byte.runs k b0 (⟨x0.f0, x0.f1, x0.f2⟩ : S146) A0_0 c0_0 _ t10.1 t10.2 _ _ HS.b (HS.nodupM 0 rfl) (HS.boundM 0 rfl) (HS.footOM 0 rfl 1 rfl) hc0_0 (HS.mu 0 rfl) ha11) ?_
   clear ha11
   rintro _ w12 ⟨rfl, hbx_, hrest_, hB1_⟩
   replace HS := HS.calledM 0 rfl hB1_ hrest_ hbx_
   dsimp only [List.set] at HS
   clear hB1_ hrest_ hbx_
   refine ⟨_, rfl, ?_⟩
   refine mv_ ?_
   obtain ⟨z13, H⟩ := if_some H
   refine b_ (bin_rem z13) ?_
   refine ad_ hK9 ?_
   refine WC.ret ?_
   obtain ⟨rfl, rfl⟩ := Prod.mk.inj (os H)
   have HSf := HS
   exact fin1 Try.f95 rfl rfl hR_ ⟨rfl, (HSf.mu 0 rfl), (rest_of (HSf.getO 0 rfl) (HSf.mu 1 rfl)), HSf.b⟩
 refine wn_ (dF c8) (WC.skip (via_ hK6 (sr_ fun _ hK14 => ?_)))
 refine mv_ ?_
 obtain ⟨t15, ha16, H⟩ := bind_some H
 refine c_ func104 (spec_l01Byte.runs k b0 (⟨x0.f0, x0.f1, x0.f2⟩ : S146) A0_0 c0_0 _ t15.1 t15.2 _ _ HS.b (HS.nodupM 0 rfl) (HS.boundM 0 rfl) (HS.footOM 0 rfl 1 rfl) hc0_0 (HS.mu 0 rfl) ha16) ?_
 clear ha16
 rintro _ w17 ⟨rfl, hbx_, hrest_, hB1_⟩
 replace HS := HS.calledM 0 rfl hB1_ hrest_ hbx_
 dsimp only [List.set] at HS
 clear hB1_ hrest_ hbx_
 refine ⟨_, rfl, ?_⟩
 refine ad_ hK14 ?_
 refine sr_ fun _ hK18 => ?_
 refine mv_ ?_
 obtain ⟨t19, ha20, H⟩ := bind_some H
 refine c_ func104 (spec_l01Byte.runs k b0 (⟨x0.f0, t15.2.f1, t15.2.f2⟩ : S146) A0_0 c0_0 _ t19.1 t19.2 _ _ HS.b (HS.nodupM 0 rfl) (HS.boundM 0 rfl) (HS.footOM 0 rfl 1 rfl) hc0_0 (HS.mu 0 rfl) ha20) ?_
 clear ha20
 rintro _ w21 ⟨rfl, hbx_, hrest_, hB1_⟩
 replace HS := HS.calledM 0 rfl hB1_ hrest_ hbx_
 dsimp only [List.set] at HS
 clear hB1_ hrest_ hbx_
 refine ⟨_, rfl, ?_⟩
 refine ad_ hK18 ?_
 refine sr_ fun _ hK22 => ?_
 refine mv_ ?_
 obtain ⟨t23, ha24, H⟩ := bind_some H
 refine c_ func104 (spec_l01Byte.runs k b0 (⟨x0.f0, t19.2.f1, t19.2.f2⟩ : S146) A0_0 c0_0 _ t23.1 t23.2 _ _ HS.b (HS.nodupM 0 rfl) (HS.boundM 0 rfl) (HS.footOM 0 rfl 1 rfl) hc0_0 (HS.mu 0 rfl) ha24) ?_
 clear ha24
 rintro _ w25 ⟨rfl, hbx_, hrest_, hB1_⟩
 replace HS := HS.calledM 0 rfl hB1_ hrest_ hbx_
 dsimp only [List.set] at HS
 clear hB1_ hrest_ hbx_
 refine ⟨_, rfl, ?_⟩
 refine ad_ hK22 ?_
 refine sr_ fun _ hK26 => ?_
 refine mv_ ?_
 obtain ⟨t27, ha28, H⟩ := bind_some H
 refine c_ func104 (spec_l01Byte.runs k b0 (⟨x0.f0, t23.2.f1, t23.2.f2⟩ : S146) A0_0 c0_0 _ t27.1 t27.2 _ _ HS.b (HS.nodupM 0 rfl) (HS.boundM 0 rfl) (HS.footOM 0 rfl 1 rfl) hc0_0 (HS.mu 0 rfl) ha28) ?_
 clear ha28
 rintro _ w29 ⟨rfl, hbx_, hrest_, hB1_⟩
 replace HS := HS.calledM 0 rfl hB1_ hrest_ hbx_
 dsimp only [List.set] at HS
 clear hB1_ hrest_ hbx_
 refine ⟨_, rfl, ?_⟩
 refine ad_ hK26 ?_
 refine sr_ fun _ hK30 => ?_
 refine mv_ ?_
 refine b_ bin_mul64 ?_
 refine mv_ ?_
 refine b_ bin_mul64 ?_
 refine b_ bin_add64 ?_
 refine mv_ ?_
 refine b_ bin_mul64 ?_
 refine b_ bin_add64 ?_
 refine mv_ ?_
 refine b_ bin_add64 ?_
 refine mv_ ?_
 obtain ⟨z31, H⟩ := if_some H
 refine b_ (bin_rem z31) ?_
 refine ad_ hK30 ?_
 refine WC.ret ?_
 obtain ⟨rfl, rfl⟩ := Prod.mk.inj (os H)
 have HSf := HS
 exact fin1 Try.f95 rfl rfl hR_ ⟨rfl, (HSf.mu 0 rfl), (rest_of (HSf.getO 0 rfl) (HSf.mu 1 rfl)), HSf.b⟩
def spec_l01Once.g (k : Nat) (x0 : S146) (a1 : Int) : Option (Bool × S146) := ((spec_l01Below.g k (⟨x0.f0, x0.f1, x0.f2⟩ : S146) a1).bind fun t3 => (some (t3.1 == 0, (⟨x0.f0, t3.2.f1, t3.2.f2⟩ : S146))))
theorem spec_l01Once.runs (k : Nat) (b0 : Nat) (x0 : S146) (A0_0 : Option Addr) (c0_0 : Nat) (a1 : Int) (bs_ : List Nat) (r1 : Bool) (y_ : S146) (w0 w : World) (hB_ : Below w0.heap.size w0 w) (hn_ : (b0 :: bs_).Nodup) (hl_ : ∀ k, k ∈ b0 :: bs_ → w0.heap.size ≤ k ∧ k < w.heap.size) (hr0_0 : Foot (cF kU A0_0 x0.f0) w (fun k_ => k_ ∉ b0 :: bs_)) (hc0_0 : x0.f0.length ≤ c0_0) (hb0 : w.heap[b0]? = some (.cells #[.slice A0_0 x0.f0.length c0_0, vi x0.f1, vi x0.f2] 146 (0, 0))) (H : spec_l01Once.g k x0 a1 = some (r1, y_)) :
   Calls prog 142 #[.pointer (some ⟨b0, 0, none⟩), vi a1] w fun e w' => e = .returned (.bool r1) ∧ w'.heap[b0]? = some (.cells #[.slice A0_0 x0.f0.length c0_0, vi y_.f1, vi y_.f2] 146 (0, 0)) ∧ RestOf w w' b0 ∧ Below w0.heap.size w0 w' := by
 unfold spec_l01Once.g at H
 have HS : St (fun _ => True) w0 w [boxM b0 #[.slice A0_0 x0.f0.length c0_0, vi x0.f1, vi x0.f2] 146, keepM w bs_] [(frameF w b0 bs_), (cF kU A0_0 x0.f0)] [] := St.startM hB_ hn_ hl_ hb0 (foot_cons hr0_0 foot_nil)
 refine cw_ (n := 9) func142 fun R_ hR_ => ?_
 refine sr_ fun _ hK1 => ?_
 refine ad_ hK1 ?_
 refine sr_ fun _ hK2 => ?_
 refine mv_ ?_
 refine mv_ ?_
 obtain ⟨t3, ha4, H⟩ := bind_some H
 refine c_ func95 (spec_l01Below.runs k b0 (⟨x0.f0, x0.f1, x0.f2⟩ : S146) A0_0 c0_0 a1 _ t3.1 t3.2 _ _ HS.b (HS.nodupM 0 rfl) (HS.boundM 0 rfl) (HS.footOM 0 rfl 1 rfl) hc0_0 (HS.mu 0 rfl) ha4) ?_
 clear ha4
 rintro _ w5 ⟨rfl, hbx_, hrest_, hB1_⟩
 replace HS := HS.calledM 0 rfl hB1_ hrest_ hbx_
 dsimp only [List.set] at HS
 clear hB1_ hrest_ hbx_
 refine ⟨_, rfl, ?_⟩
 refine b_ bin_eql ?_
 refine ad_ hK2 ?_
 refine WC.ret ?_
 obtain ⟨rfl, rfl⟩ := Prod.mk.inj (os H)
 have HSf := HS
 exact fin1 Try.f142 rfl rfl hR_ ⟨rfl, (HSf.mu 0 rfl), (rest_of (HSf.getO 0 rfl) (HSf.mu 1 rfl)), HSf.b⟩
def spec_l15Small.g (k : Nat) (x0 : S146) : Option (S62 × S146) := ((spec_l01Below.g k (⟨x0.f0, x0.f1, x0.f2⟩ : S146) 9).bind fun t5 => ((spec_l01Below.g k (⟨x0.f0, t5.2.f1, t5.2.f2⟩ : S146) 9).bind fun t20 => (some ((⟨[[(⟨0, [t5.1]⟩ : S149)]], [[(⟨1, [t20.1]⟩ : S149)]]⟩ : S62), (⟨x0.f0, t20.2.f1, t20.2.f2⟩ : S146)))))
theorem spec_l15Small.runs (k : Nat) (b0 : Nat) (x0 : S146) (A0_0 : Option Addr) (c0_0 : Nat) (bs_ : List Nat) (r1 : S62) (y_ : S146) (w0 w : World) (hB_ : Below w0.heap.size w0 w) (hn_ : (b0 :: bs_).Nodup) (hl_ : ∀ k, k ∈ b0 :: bs_ → w0.heap.size ≤ k ∧ k < w.heap.size) (hr0_0 : Foot (cF kU A0_0 x0.f0) w (fun k_ => k_ ∉ b0 :: bs_)) (hc0_0 : x0.f0.length ≤ c0_0) (hb0 : w.heap[b0]? = some (.cells #[.slice A0_0 x0.f0.length c0_0, vi x0.f1, vi x0.f2] 146 (0, 0))) (H : spec_l15Small.g k x0 = some (r1, y_)) :
   Calls prog 103 #[.pointer (some ⟨b0, 0, none⟩)] w fun e w' => ∃ (A0_0_ : Option Addr) (c0_0_ : Nat) (A0_1_ : Option Addr) (c0_1_ : Nat), e = .returned (.agg #[.slice A0_0_ r1.f0.length c0_0_, .slice A0_1_ r1.f1.length c0_1_]) ∧ r1.f0.length ≤ c0_0_ ∧ Foot (cF kS149 A0_0_ r1.f0) w' (fun k_ => w0.heap.size ≤ k_ ∧ k_ ∉ b0 :: bs_) ∧ r1.f1.length ≤ c0_1_ ∧ Foot (cF kS149 A0_1_ r1.f1) w' (fun k_ => w0.heap.size ≤ k_ ∧ k_ ∉ b0 :: bs_) ∧ w'.heap[b0]? = some (.cells #[.slice A0_0 x0.f0.length c0_0, vi y_.f1, vi y_.f2] 146 (0, 0)) ∧ RestOf w w' b0 ∧ Below w0.heap.size w0 w' := by
 unfold spec_l15Small.g at H
 have HS : St (fun _ => True) w0 w [boxM b0 #[.slice A0_0 x0.f0.length c0_0, vi x0.f1, vi x0.f2] 146, keepM w bs_] [(frameF w b0 bs_), (cF kU A0_0 x0.f0)] [] := St.startM hB_ hn_ hl_ hb0 (foot_cons hr0_0 foot_nil)
 refine cw_ (n := 16) func103 fun R_ hR_ => ?_
 refine sr_ fun _ hK1 => ?_
 refine WL.alloc HS (v := .agg #[sn, sn]) (cs := #[sn, sn]) rfl rfl (by decide) rfl (by kernel_rfl) rfl (fun b2 w3 hb2 HS => ?_)
 refine dn_ hK1 (sr_ fun _ hK4 => ?_)
 refine mv_ ?_
 obtain ⟨t5, ha6, H⟩ := bind_some H
 refine c_ func95 (spec_l01Below.runs k b0 (⟨x0.f0, x0.f1, x0.f2⟩ : S146) A0_0 c0_0 9 _ t5.1 t5.2 _ _ HS.b (HS.nodupM 1 rfl) (HS.boundM 1 rfl) (HS.footOM 1 rfl 1 rfl) hc0_0 (HS.mu 1 rfl) ha6) ?_
 clear ha6
 rintro _ w7 ⟨rfl, hbx_, hrest_, hB1_⟩
 replace HS := HS.calledM 1 rfl hB1_ hrest_ hbx_
 dsimp only [List.set] at HS
 clear hB1_ hrest_ hbx_
 refine ⟨_, rfl, ?_⟩
 refine WL.litN HS (sz := 1) (z := (vi 0)) rfl rfl (by decide) rfl [[vi t5.1]] ⟨⟨rfl, _, rfl, rfl, rfl⟩, trivial⟩ rfl underlying22 (by kernel_rfl) (by decide) (by decide) (fun v8 w9 HS => ?_)
 replace HS := HS.deriveN (p := (rF kI [t5.1] (List.flatten [[vi t5.1]]))) (fun W_ hN_ => reps_lit ⟨(K_int _), trivial⟩)
 obtain ⟨A10, c11, rfl⟩ := row_slice (HS.mu 0 rfl)
 refine v_ (Run.build (cells := #[vi 0, (.slice A10 1 c11)]) rfl [(1, (.slice A10 1 c11))] ⟨⟨rfl, rfl⟩, trivial⟩ (by kernel_rfl)) ?_
 have le12 := row_le (HS.mu 0 rfl)
 replace HS := HS.freezeN 0 (p := (fun W => kI.C W A10 1 ([t5.1]))) rfl (fun W_ hm_ h_ => row_C (by simp) hm_ h_.1)
 dsimp only [List.eraseIdx] at HS
 refine WL.litN HS (sz := 2) (z := (.agg #[vi 0, sn])) rfl rfl (by decide) rfl [[vi 0, .slice A10 1 c11]] ⟨⟨rfl, _, rfl, rfl, rfl⟩, trivial⟩ rfl underlying133 (by kernel_rfl) (by decide) (by decide) (fun v13 w14 HS => ?_)
 replace HS := HS.deriveN (p := (rF k149 [(⟨0, [t5.1]⟩ : S149)] (List.flatten [[vi 0, .slice A10 1 c11]]))) (fun W_ hN_ => reps_lit ⟨(k149_mk _ (⟨0, [t5.1]⟩ : S149) (le12) hN_.1), trivial⟩)
 obtain ⟨A15, c16, rfl⟩ := row_slice (HS.mu 0 rfl)
 have le17 := row_le (HS.mu 0 rfl)
 replace HS := HS.freezeN 0 (p := (fun W => k149.C W A15 1 ([(⟨0, [t5.1]⟩ : S149)]))) rfl (fun W_ hm_ h_ => row_C (by simp) hm_ h_.1)
 dsimp only [List.eraseIdx] at HS
 refine WL.litN HS (sz := 1) (z := (sn)) rfl rfl (by decide) rfl [[.slice A15 1 c16]] ⟨⟨rfl, _, rfl, rfl, rfl⟩, trivial⟩ rfl underlying60 (by kernel_rfl) (by decide) (by decide) (fun v18 w19 HS => ?_)
 replace HS := HS.deriveN (p := (rF kS149 [[(⟨0, [t5.1]⟩ : S149)]] (List.flatten [[.slice A15 1 c16]]))) (fun W_ hN_ => reps_lit ⟨(K_slice le17 hN_.1), trivial⟩)
 refine mv_ ?_
 obtain ⟨t20, ha21, H⟩ := bind_some H
 refine c_ func95 (spec_l01Below.runs k b0 (⟨x0.f0, t5.2.f1, t5.2.f2⟩ : S146) A0_0 c0_0 9 _ t20.1 t20.2 _ _ HS.b (HS.nodupM 2 rfl) (HS.boundM 2 rfl) (HS.footOM 2 rfl 1 rfl) hc0_0 (HS.mu 2 rfl) ha21) ?_
 clear ha21
 rintro _ w22 ⟨rfl, hbx_, hrest_, hB1_⟩
 replace HS := HS.calledM 2 rfl hB1_ hrest_ hbx_
 dsimp only [List.set] at HS
 clear hB1_ hrest_ hbx_
 refine ⟨_, rfl, ?_⟩
 refine WL.litN HS (sz := 1) (z := (vi 0)) rfl rfl (by decide) rfl [[vi t20.1]] ⟨⟨rfl, _, rfl, rfl, rfl⟩, trivial⟩ rfl underlying22 (by kernel_rfl) (by decide) (by decide) (fun v23 w24 HS => ?_)
 replace HS := HS.deriveN (p := (rF kI [t20.1] (List.flatten [[vi t20.1]]))) (fun W_ hN_ => reps_lit ⟨(K_int _), trivial⟩)
 obtain ⟨A25, c26, rfl⟩ := row_slice (HS.mu 0 rfl)
 refine v_ (Run.build (cells := #[vi 1, (.slice A25 1 c26)]) rfl [(0, vi 1), (1, (.slice A25 1 c26))] ⟨⟨rfl, rfl⟩, ⟨⟨rfl, rfl⟩, trivial⟩⟩ (by kernel_rfl)) ?_
 have le27 := row_le (HS.mu 0 rfl)
 replace HS := HS.freezeN 0 (p := (fun W => kI.C W A25 1 ([t20.1]))) rfl (fun W_ hm_ h_ => row_C (by simp) hm_ h_.1)
 dsimp only [List.eraseIdx] at HS
 refine WL.litN HS (sz := 2) (z := (.agg #[vi 0, sn])) rfl rfl (by decide) rfl [[vi 1, .slice A25 1 c26]] ⟨⟨rfl, _, rfl, rfl, rfl⟩, trivial⟩ rfl underlying133 (by kernel_rfl) (by decide) (by decide) (fun v28 w29 HS => ?_)
 replace HS := HS.deriveN (p := (rF k149 [(⟨1, [t20.1]⟩ : S149)] (List.flatten [[vi 1, .slice A25 1 c26]]))) (fun W_ hN_ => reps_lit ⟨(k149_mk _ (⟨1, [t20.1]⟩ : S149) (le27) hN_.1), trivial⟩)
 obtain ⟨A30, c31, rfl⟩ := row_slice (HS.mu 0 rfl)
 have le32 := row_le (HS.mu 0 rfl)
 replace HS := HS.freezeN 0 (p := (fun W => k149.C W A30 1 ([(⟨1, [t20.1]⟩ : S149)]))) rfl (fun W_ hm_ h_ => row_C (by simp) hm_ h_.1)
 dsimp only [List.eraseIdx] at HS
 refine WL.litN HS (sz := 1) (z := (sn)) rfl rfl (by decide) rfl [[.slice A30 1 c31]] ⟨⟨rfl, _, rfl, rfl, rfl⟩, trivial⟩ rfl underlying60 (by kernel_rfl) (by decide) (by decide) (fun v33 w34 HS => ?_)
 replace HS := HS.deriveN (p := (rF kS149 [[(⟨1, [t20.1]⟩ : S149)]] (List.flatten [[.slice A30 1 c31]]))) (fun W_ hN_ => reps_lit ⟨(K_slice le32 hN_.1), trivial⟩)
 obtain ⟨A35, c36, rfl⟩ := row_slice (HS.mu 1 rfl)
 obtain ⟨A37, c38, rfl⟩ := row_slice (HS.mu 0 rfl)
 refine v_ (Run.build (cells := #[(.slice A35 1 c36), (.slice A37 1 c38)]) rfl [(0, (.slice A35 1 c36)), (1, (.slice A37 1 c38))] ⟨⟨rfl, rfl⟩, ⟨⟨rfl, rfl⟩, trivial⟩⟩ (by kernel_rfl)) ?_
 refine WL.storeW HS 2 rfl rfl rfl rfl rfl rfl (oneL rfl) (by kernel_rfl) rfl (fun w39 HS => ?_)
 dsimp only [List.set] at HS
 refine dn_ hK4 (WC.ret ?_)
 have le40 := row_le (HS.mu 1 rfl)
 replace HS := HS.freezeN 1 (p := (fun W => kS149.C W A35 1 ([[(⟨0, [t5.1]⟩ : S149)]]))) rfl (fun W_ hm_ h_ => row_C (by simp) hm_ h_.2.2.2.2.2.1)
 dsimp only [List.eraseIdx] at HS
 have le41 := row_le (HS.mu 0 rfl)
 replace HS := HS.freezeN 0 (p := (fun W => kS149.C W A37 1 ([[(⟨1, [t20.1]⟩ : S149)]]))) rfl (fun W_ hm_ h_ => row_C (by simp) hm_ h_.2.1)
 dsimp only [List.eraseIdx] at HS
 obtain ⟨rfl, rfl⟩ := Prod.mk.inj (os H)
 have HSf := (St.forget HS 0 rfl)
 exact fin1 Try.f103 rfl ⟨_, rfl, resv_box (HS.mu 0 rfl) underlying62 rfl (by kernel_rfl)⟩ hR_ ⟨_, _, _, _, rfl, le40, (foot_freshM (HSf.footN 1 rfl)), le41, (foot_freshM (HSf.footN 0 rfl)), (HSf.mu 0 rfl), (rest_of (HSf.getO 0 rfl) (HSf.mu 1 rfl)), HSf.b⟩
end Go.Proofs.Ytlpginalgdbopaa.PFnBlocks
