/- Functions that the statement reaches, as Lean functions, and the proof that a call of each comes to just its answer; written by this claim's own program. No conditions. -/
import Derived.Test.YtlpginalgdbopaaGFnExactCellsOf1
namespace Go.Proofs.Ytlpginalgdbopaa.PFnExactCellsOf
open Try
open Go.RowKit Go.Proofs.YtlpginalgdbopaaW.PrintWords Go.Proofs.YtlpginalgdbopaaW.PrintLast Go.Proofs.YtlpginalgdbopaaW.PrintMore Go.Proofs.Ytlpginalgdbopaa.XW Go.Proofs.Ytlpginalgdbopaa.XOp Go.Proofs.Ytlpginalgdbopaa.XSt Go.Proofs.Ytlpginalgdbopaa.XDraw
set_option linter.unusedVariables false
set_option linter.unusedSimpArgs false
set_option maxHeartbeats 4000000
set_option maxRecDepth 20000
def laws_FnExactCellsOf.g (k : Nat) (x0 : S84) (x1 : S85) : Option Bool := ((laws_szStore.g k (⟨x0.f0, x0.f1⟩ : S84) 1048576).bind fun t8 => (if t8 < 0 then (some true) else ((laws_szTable.g k (⟨x1.f0, x1.f1⟩ : S85) t8).bind fun t16 => (if t16 < 0 then (some true) else ((laws_toStore.g k (⟨x0.f0, x0.f1⟩ : S84)).bind fun t25 => ((laws_toTable.g k (⟨x1.f0, x1.f1⟩ : S85)).bind fun t36 => ((spec_CellsOf.g k t25 t36).bind fun t49 => ((laws_toStore.g k (⟨x0.f0, x0.f1⟩ : S84)).bind fun t57 => ((laws_toTable.g k (⟨x1.f0, x1.f1⟩ : S85)).bind fun t76 => ((impl_CellsOf.g k (⟨t57.f0, t57.f1⟩ : S58) (⟨t76.f0, t76.f1⟩ : S67)).bind fun t89 => ((laws_eqCellS.g k t89.1 t49.1).bind fun t100 => (if t100 = true then (if t89.2 = t49.2 then ((laws_toStore.g k (⟨x0.f0, x0.f1⟩ : S84)).bind fun t108 => ((laws_eqStore.g k (⟨t57.f0, t57.f1⟩ : S58) t108).bind fun t123 => (if t123 = true then ((laws_toTable.g k (⟨x1.f0, x1.f1⟩ : S85)).bind fun t130 => ((laws_eqTable.g k (⟨t76.f0, t76.f1⟩ : S67) t130).bind fun t139 => (if t139 = true then (if (0 : Int) ≤ 1 ∧ 1 + ((n22 t57.f0) : Int) ≤ 4611686018427387904 then (if 0 ≤ (1 + ((n22 t57.f0) : Int)) ∧ (1 + ((n22 t57.f0) : Int)) + ((n56 t57.f1) : Int) ≤ 4611686018427387904 then (if 0 ≤ ((1 + ((n22 t57.f0) : Int)) + ((n56 t57.f1) : Int)) ∧ ((1 + ((n22 t57.f0) : Int)) + ((n56 t57.f1) : Int)) + ((n22 t76.f0) : Int) ≤ 4611686018427387904 then ((laws_eqCellS.g k t89.1 t49.1).bind fun t179 => (if t179 = true then (if (0 : Int) ≤ 1 ∧ 1 + ((n71 t89.1) : Int) ≤ 4611686018427387904 then ((laws_toStore.g k (⟨x0.f0, x0.f1⟩ : S84)).bind fun t201 => ((laws_toTable.g k (⟨x1.f0, x1.f1⟩ : S85)).bind fun t212 => ((impl_CellsOf.g k t201 t212).bind fun t225 => ((laws_eqCellS.g k t225.1 t49.1).bind fun t236 => (if t236 = true then (if t225.2 = t49.2 then (some true) else (some false)) else (some false)))))) else none) else (some false))) else none) else none) else none) else (some false)))) else (some false)))) else (some false)) else (some false)))))))))))))
theorem laws_FnExactCellsOf.runs (k : Nat) (x0 : S84) (A0_0 : Option Addr) (c0_0 : Nat) (A0_1 : Option Addr) (c0_1 : Nat) (x1 : S85) (A1_0 : Option Addr) (c1_0 : Nat) (r : Bool) (w : World) (hr0_0 : kI.C w A0_0 x0.f0.length x0.f0) (hc0_0 : x0.f0.length ≤ c0_0) (hr0_1 : kS98.C w A0_1 x0.f1.length x0.f1) (hc0_1 : x0.f1.length ≤ c0_1) (hr1_0 : kI.C w A1_0 x1.f0.length x1.f0) (hc1_0 : x1.f0.length ≤ c1_0) (H : laws_FnExactCellsOf.g k x0 x1 = some r) :
   Calls prog 11 #[.agg #[.slice A0_0 x0.f0.length c0_0, .slice A0_1 x0.f1.length c0_1], .agg #[.slice A1_0 x1.f0.length c1_0, vi x1.f1]] w fun e w' => e = .returned (.bool r) ∧ Below w.heap.size w w' := by
 unfold laws_FnExactCellsOf.g at H
 have HS : St (fun _ => True) w w [] [(cF kI A0_0 x0.f0), (cF kS98 A0_1 x0.f1), (cF kI A1_0 x1.f0)] [] := St.start (foot_cons (foot_C (Kd.heap_int _) hr0_0) (foot_cons (foot_C (Kd.heap_slice _ h98) hr0_1) (foot_cons (foot_C (Kd.heap_int _) hr1_0) foot_nil)))
 refine cw_ (n := 119) func11 fun R_ hR_ => ?_
 refine sr_ fun _ hK1 => ?_
 refine bo_ HS (fun b2 w3 hb2 HS => ?_)
 refine bo_ HS (fun b4 w5 hb4 HS => ?_)
 refine ad_ hK1 ?_
 clear hK1
 exact by (
 refine sr_ fun _ hK6 => ?_
 refine ad_ hK6 ?_
 clear hK6
 refine sr_ fun _ hK7 => ?_
 refine v_ (ls_ (HS.mu 1 rfl) underlying84 part_all) ?_
 refine mv_ ?_
 obtain ⟨t8, ha9, H⟩ := bind_some H
 refine cs_ HS func58 (laws_szStore.runs k (⟨x0.f0, x0.f1⟩ : S84) A0_0 c0_0 A0_1 c0_1 1048576 t8 _ (HS.getO 0 rfl) hc0_0 (HS.getO 1 rfl) hc0_1 ha9) (fun w10 HS => ?_)
 exact by (
 clear ha9
 refine ad_ hK7 ?_
 clear hK7
 refine WC.seq fun _ hK11 => ?_
 refine sr_ fun _ hK12 => ?_
 refine mv_ ?_
 refine b_ bin_lss ?_
 refine dn_ hK12 ?_
 exact by (
 clear hK12
 rcases ite_ H with ⟨c13, H⟩ | ⟨c13, H⟩
 · refine wy_ (dT c13) (sr_ fun _ hK14 => ?_)
   refine ad_ hK14 ?_
   clear hK14
   obtain rfl := os H
   exact rt1 Try.f11 rfl rfl hR_ ⟨rfl, HS.b⟩
 refine wn_ (dF c13) (WC.skip (via_ hK11 (sr_ fun _ hK15 => ?_)))
 exact by (
 clear hK11
 refine v_ (ls_ (HS.mu 0 rfl) underlying85 part_all) ?_
 refine mv_ ?_
 obtain ⟨t16, ha17, H⟩ := bind_some H
 refine cs_ HS func59 (laws_szTable.runs k (⟨x1.f0, x1.f1⟩ : S85) A1_0 c1_0 t8 t16 _ (HS.getO 2 rfl) hc1_0 ha17) (fun w18 HS => ?_)
 clear ha17
 refine ad_ hK15 ?_
 clear hK15
 exact by (
 refine WC.seq fun _ hK19 => ?_
 refine sr_ fun _ hK20 => ?_
 refine mv_ ?_
 refine b_ bin_lss ?_
 refine dn_ hK20 ?_
 clear hK20
 rcases ite_ H with ⟨c21, H⟩ | ⟨c21, H⟩
 · refine wy_ (dT c21) (sr_ fun _ hK22 => ?_)
   exact by (
   refine ad_ hK22 ?_
   clear hK22
   obtain rfl := os H
   exact rt1 Try.f11 rfl rfl hR_ ⟨rfl, HS.b⟩ )
 refine wn_ (dF c21) (WC.skip (via_ hK19 (WC.seq fun _ hK23 => ?_)))
 clear hK19
 refine WC.drawS HS [] rfl rfl (fun w24 HS => ?_)
 have HB := Below.refl w24.heap.size w24
 exact by (
 have HSW := HS
 refine dt_ 0 (Below.refl _ _) (fun w_ hw_ => Run.loadS (cs := [.slice A0_0 x0.f0.length c0_0, .slice A0_1 x0.f1.length c0_1]) rfl rfl underlying84 rfl (by kernel_rfl) (box_part ((HS.below hw_).mu 1 rfl) part_all)) ?_
 refine dt_ 2 (Below.refl _ _) (fun w_ hw_ => Run.loadS (cs := [.slice A1_0 x1.f0.length c1_0, vi x1.f1]) rfl rfl underlying85 rfl (by kernel_rfl) (box_part ((HS.below hw_).mu 0 rfl) part_all)) ?_
 obtain ⟨t25, ha26, H⟩ := bind_some H
 refine dc_ 1 (w_none rfl) func60 (laws_toStore.runs k (⟨x0.f0, x0.f1⟩ : S84) A0_0 c0_0 A0_1 c0_1 t25 _ (HS.getO 0 rfl) hc0_0 (HS.getO 1 rfl) hc0_1 ha26) ?_
 clear ha26
 rintro _ w27 ⟨v28, bl29, v30, bl31, rfl, hO_, hb⟩
 replace HB := HB.trans (hb.mono HB.size)
 exact by (
 replace HS := HS.got hb hO_
 dsimp only [List.cons_append, List.nil_append] at HS
 clear hO_
 obtain ⟨I32, bl33, HS⟩ := HS.unseal (sz := 1) rfl
 replace HS := HS.freezeN 1 (p := (rF kI t25.f0 I32)) rfl (fun _ hP_ _ => RepsB.reps hP_)
 dsimp only [List.eraseIdx] at HS
 replace HS := HS.front 1 rfl
 dsimp only [List.eraseIdx] at HS
 exact by (
 obtain ⟨I34, bl35, HS⟩ := HS.unseal (sz := 1) rfl
 refine ⟨HB, _, rfl, ?_⟩
 clear hb
 obtain ⟨t36, ha37, H⟩ := bind_some H
 refine dc_ 3 (w_none rfl) func61 (laws_toTable.runs k (⟨x1.f0, x1.f1⟩ : S85) A1_0 c1_0 t36 _ (HS.getO 2 rfl) hc1_0 ha37) ?_
 clear ha37
 rintro _ w38 ⟨v39, bl40, rfl, hO_, hb⟩
 replace HB := HB.trans (hb.mono HB.size)
 exact by (
 replace HS := HS.got hb hO_
 dsimp only [List.cons_append, List.nil_append] at HS
 clear hO_
 obtain ⟨I41, bl42, HS⟩ := HS.unseal (sz := 1) rfl
 replace HS := HS.freezeN 1 (p := (rF kI t36.f0 I41)) rfl (fun _ hP_ _ => RepsB.reps hP_)
 dsimp only [List.eraseIdx] at HS
 refine ⟨HB, _, rfl, ?_⟩
 clear hb
 exact by (
 obtain ⟨A43, c44, rfl⟩ := row_slice (HS.mu 3 rfl)
 obtain ⟨A45, c46, rfl⟩ := row_slice (HS.mu 1 rfl)
 obtain ⟨A47, c48, rfl⟩ := row_slice (HS.mu 0 rfl)
 obtain ⟨t49, ha50, H⟩ := bind_some H
 refine dc_ 4 (w_none rfl) func48 (spec_CellsOf.runs k t25 A43 c44 A45 c46 t36 A47 c48 t49.1 t49.2 _ (row_C rfl (HS.mu 3 rfl) (HS.getN 1 rfl)) (row_le (HS.mu 3 rfl)) (row_C rfl (HS.mu 1 rfl) (HS.elsK 2 rfl)) (row_le (HS.mu 1 rfl)) (row_C rfl (HS.mu 0 rfl) (HS.getN 0 rfl)) (row_le (HS.mu 0 rfl)) ha50) ?_
 clear ha50
 rintro _ w51 ⟨A52, c53, rfl, le54, hf55, hb⟩
 replace HB := HB.trans (hb.mono HB.size)
 exact by (
 replace HS := HS.newNs hb (foot_cons hf55 foot_nil)
 refine ⟨HB, _, rfl, ?_⟩
 clear hb
 refine dm_ 5 ?_
 refine dp_ 6 (fun _ => Run.extract rfl rfl rfl) ?_
 refine dp_ 7 (fun _ => Run.extract rfl rfl rfl) ?_
 refine dp_ 8 (fun _ => Run.assign rfl rfl) ?_
 refine dp_ 9 (fun _ => Run.assign rfl rfl) ?_
 exact by (
 refine dd_ ?_
 clear HB HSW
 refine via_ hK23 (sr_ fun _ hK56 => ?_)
 clear hK23
 refine v_ (ls_ (HS.mu 5 rfl) underlying84 part_all) ?_
 obtain ⟨t57, ha58, H⟩ := bind_some H
 refine c_ func60 (laws_toStore.runs k (⟨x0.f0, x0.f1⟩ : S84) A0_0 c0_0 A0_1 c0_1 t57 _ (HS.getO 0 rfl) hc0_0 (HS.getO 1 rfl) hc0_1 ha58) ?_
 clear ha58
 exact by (
 rintro _ w59 ⟨v60, bl61, v62, bl63, rfl, hO_, hb⟩
 replace HS := HS.got hb hO_
 dsimp only [List.cons_append, List.nil_append] at HS
 clear hO_
 obtain ⟨I64, bl65, HS⟩ := HS.unseal (sz := 1) rfl
 replace HS := HS.freezeN 1 (p := (rF kI t57.f0 I64)) rfl (fun _ hP_ _ => RepsB.reps hP_)
 dsimp only [List.eraseIdx] at HS
 replace HS := HS.front 1 rfl
 exact by (
 dsimp only [List.eraseIdx] at HS
 obtain ⟨I66, bl67, HS⟩ := HS.unseal (sz := 1) rfl
 refine ⟨_, rfl, ?_⟩
 clear hb
 refine WL.alloc HS (v := .agg #[sn, sn]) (cs := #[sn, sn]) rfl rfl (by decide) rfl (by kernel_rfl) rfl (fun b68 w69 hb68 HS => ?_)
 obtain ⟨A71, c72, rfl⟩ := row_slice (HS.mu 3 rfl)
 obtain ⟨A73, c74, rfl⟩ := row_slice (HS.mu 1 rfl)
 refine WL.storeW HS 0 rfl rfl rfl rfl rfl rfl (oneL rfl) (by kernel_rfl) rfl (fun w70 HS => ?_)
 exact by (
 dsimp only [List.set] at HS
 refine dn_ hK56 (sr_ fun _ hK75 => ?_)
 clear hK56
 refine v_ (ls_ (HS.mu 8 rfl) underlying85 part_all) ?_
 obtain ⟨t76, ha77, H⟩ := bind_some H
 refine c_ func61 (laws_toTable.runs k (⟨x1.f0, x1.f1⟩ : S85) A1_0 c1_0 t76 _ (HS.getO 2 rfl) hc1_0 ha77) ?_
 clear ha77
 rintro _ w78 ⟨v79, bl80, rfl, hO_, hb⟩
 exact by (
 replace HS := HS.got hb hO_
 dsimp only [List.cons_append, List.nil_append] at HS
 clear hO_
 obtain ⟨I81, bl82, HS⟩ := HS.unseal (sz := 1) rfl
 replace HS := HS.freezeN 1 (p := (rF kI t76.f0 I81)) rfl (fun _ hP_ _ => RepsB.reps hP_)
 dsimp only [List.eraseIdx] at HS
 refine ⟨_, rfl, ?_⟩
 clear hb
 exact by (
 refine WL.alloc HS (v := .agg #[sn, vi 0]) (cs := #[sn, vi 0]) rfl rfl (by decide) rfl (by kernel_rfl) rfl (fun b83 w84 hb83 HS => ?_)
 obtain ⟨A86, c87, rfl⟩ := row_slice (HS.mu 1 rfl)
 refine WL.storeW HS 0 rfl rfl rfl rfl rfl rfl (oneL rfl) (by kernel_rfl) rfl (fun w85 HS => ?_)
 dsimp only [List.set] at HS
 refine dn_ hK75 (sr_ fun _ hK88 => ?_)
 clear hK75
 refine v_ (ls_ (HS.mu 2 rfl) underlying58 part_all) ?_
 refine v_ (ls_ (HS.mu 0 rfl) underlying67 part_all) ?_
 exact by (
 obtain ⟨t89, ha90, H⟩ := bind_some H
 refine c_ func49 (impl_CellsOf.runs k (⟨t57.f0, t57.f1⟩ : S58) A71 c72 A73 c74 (⟨t76.f0, t76.f1⟩ : S67) A86 c87 t89.1 t89.2 _ (row_C rfl (HS.mu 5 rfl) (HS.getN 1 rfl)) (row_le (HS.mu 5 rfl)) (row_C rfl (HS.mu 3 rfl) (HS.elsK 4 rfl)) (row_le (HS.mu 3 rfl)) (row_C rfl (HS.mu 1 rfl) (HS.getN 0 rfl)) (row_le (HS.mu 1 rfl)) ha90) ?_
 clear ha90
 rintro _ w91 ⟨v92, bl93, rfl, hO_, hb⟩
 replace HS := HS.got hb hO_
 dsimp only [List.cons_append, List.nil_append] at HS
 clear hO_
 obtain ⟨I94, bl95, HS⟩ := HS.unseal (sz := 2) rfl
 exact by (
 refine ⟨_, rfl, ?_⟩
 clear hb
 refine mv_ ?_
 refine v_ (Run.extract rfl rfl rfl) ?_
 refine v_ (Run.extract rfl rfl rfl) ?_
 refine as_ ?_
 refine ad_ hK88 ?_
 clear hK88
 exact by (
 refine WC.seq fun _ hK96 => ?_
 refine sr_ fun _ hK97 => ?_
 refine mv_ ?_
 refine mv_ ?_
 obtain ⟨A98, c99, rfl⟩ := row_slice (HS.mu 0 rfl)
 obtain ⟨t100, ha101, H⟩ := bind_some H
 refine cs_ HS func62 (laws_eqCellS.runs k A98 c99 t89.1 A52 c53 t49.1 t100 _ (row_C rfl (HS.mu 0 rfl) (HS.elsK 1 rfl)) (row_le (HS.mu 0 rfl)) (HS.getN 2 rfl) le54 ha101) (fun w102 HS => ?_)
 clear ha101
 exact by (
 refine nt_ ?_
 refine mv_ ?_
 rcases eti_ H with ⟨c103, H⟩ | ⟨c103, H⟩
 · refine off_ (c' := true) (nB (bF c103)) ?_
   refine WL.know 49 (nB (bF c103)) ?_
   refine fast_ ?_
   refine via_ hK97 (wy_ rfl ?_)
   clear hK97
   exact by (
   refine sr_ fun _ hK256 => ?_
   refine ad_ hK256 ?_
   clear hK256
   obtain rfl := os H
   exact rt1 Try.f11 rfl rfl hR_ ⟨rfl, HS.b⟩ )
 refine on_ (nB c103) (mv_ ?_)
 refine on_ (nB c103) (mv_ ?_)
 refine on_ (nB c103) (v_ (Run.binB rfl rfl rfl (bin_neqB underlying4)) ?_)
 exact by (
 refine v_ (Run.pickF rfl rfl (nB c103) rfl) ?_
 refine dn_ hK97 ?_
 clear hK97
 rcases eti_ H with ⟨c104, H⟩ | ⟨c104, H⟩
 · refine wy_ (qT c104) (sr_ fun _ hK255 => ?_)
   refine ad_ hK255 ?_
   clear hK255
   obtain rfl := os H
   exact rt1 Try.f11 rfl rfl hR_ ⟨rfl, HS.b⟩
 exact by (
 refine wn_ (qF c104) (WC.skip (via_ hK96 (WC.seq fun _ hK105 => ?_)))
 clear hK96
 refine WC.seq fun _ hK106 => ?_
 refine WC.drawS HS [] rfl rfl (fun w107 HS => ?_)
 have HB := Below.refl w107.heap.size w107
 have HSW := HS
 refine dt_ 0 (Below.refl _ _) (fun w_ hw_ => Run.loadS (cs := [(.slice A71 t57.f0.length c72), (.slice A73 t57.f1.length c74)]) rfl rfl underlying58 rfl (by kernel_rfl) (box_part ((HS.below hw_).mu 4 rfl) part_all)) ?_
 refine dt_ 1 (Below.refl _ _) (fun w_ hw_ => Run.loadS (cs := [.slice A0_0 x0.f0.length c0_0, .slice A0_1 x0.f1.length c0_1]) rfl rfl underlying84 rfl (by kernel_rfl) (box_part ((HS.below hw_).mu 13 rfl) part_all)) ?_
 exact by (
 obtain ⟨t108, ha109, H⟩ := bind_some H
 refine dc_ 2 (w_none rfl) func60 (laws_toStore.runs k (⟨x0.f0, x0.f1⟩ : S84) A0_0 c0_0 A0_1 c0_1 t108 _ (HS.getO 0 rfl) hc0_0 (HS.getO 1 rfl) hc0_1 ha109) ?_
 clear ha109
 rintro _ w110 ⟨v111, bl112, v113, bl114, rfl, hO_, hb⟩
 replace HB := HB.trans (hb.mono HB.size)
 replace HS := HS.got hb hO_
 dsimp only [List.cons_append, List.nil_append] at HS
 clear hO_
 exact by (
 obtain ⟨I115, bl116, HS⟩ := HS.unseal (sz := 1) rfl
 replace HS := HS.freezeN 1 (p := (rF kI t108.f0 I115)) rfl (fun _ hP_ _ => RepsB.reps hP_)
 dsimp only [List.eraseIdx] at HS
 replace HS := HS.front 1 rfl
 dsimp only [List.eraseIdx] at HS
 obtain ⟨I117, bl118, HS⟩ := HS.unseal (sz := 1) rfl
 refine ⟨HB, _, rfl, ?_⟩
 clear hb
 exact by (
 obtain ⟨A119, c120, rfl⟩ := row_slice (HS.mu 2 rfl)
 obtain ⟨A121, c122, rfl⟩ := row_slice (HS.mu 0 rfl)
 obtain ⟨t123, ha124, H⟩ := bind_some H
 refine dcs_ HS HB 3 (w_none rfl) func63 (laws_eqStore.runs k (⟨t57.f0, t57.f1⟩ : S58) A71 c72 A73 c74 t108 A119 c120 A121 c122 t123 _ (row_C rfl (HS.mu 10 rfl) (HS.getN 2 rfl)) (row_le (HS.mu 10 rfl)) (row_C rfl (HS.mu 8 rfl) (HS.elsK 9 rfl)) (row_le (HS.mu 8 rfl)) (row_C rfl (HS.mu 2 rfl) (HS.getN 0 rfl)) (row_le (HS.mu 2 rfl)) (row_C rfl (HS.mu 0 rfl) (HS.elsK 1 rfl)) (row_le (HS.mu 0 rfl)) ha124) (fun w125 HS HB => ?_)
 clear ha124
 refine dp_ 4 (fun _ => Run.not rfl rfl) ?_
 refine dd_ ?_
 clear HB HSW
 exact by (
 refine via_ hK106 ?_
 clear hK106
 rcases eti_ H with ⟨c126, H⟩ | ⟨c126, H⟩
 · refine wy_ (nB (bF c126)) (sr_ fun _ hK254 => ?_)
   refine ad_ hK254 ?_
   clear hK254
   obtain rfl := os H
   exact rt1 Try.f11 rfl rfl hR_ ⟨rfl, HS.b⟩
 exact by (
 refine wn_ (nB c126) (WC.skip (via_ hK105 (WC.seq fun _ hK127 => ?_)))
 clear hK105
 refine WC.seq fun _ hK128 => ?_
 refine WC.drawS HS [] rfl rfl (fun w129 HS => ?_)
 have HB := Below.refl w129.heap.size w129
 have HSW := HS
 refine dt_ 0 (Below.refl _ _) (fun w_ hw_ => Run.loadS (cs := [(.slice A86 t76.f0.length c87), vi t76.f1]) rfl rfl underlying67 rfl (by kernel_rfl) (box_part ((HS.below hw_).mu 5 rfl) part_all)) ?_
 refine dt_ 1 (Below.refl _ _) (fun w_ hw_ => Run.loadS (cs := [.slice A1_0 x1.f0.length c1_0, vi x1.f1]) rfl rfl underlying85 rfl (by kernel_rfl) (box_part ((HS.below hw_).mu 15 rfl) part_all)) ?_
 exact by (
 obtain ⟨t130, ha131, H⟩ := bind_some H
 refine dc_ 2 (w_none rfl) func61 (laws_toTable.runs k (⟨x1.f0, x1.f1⟩ : S85) A1_0 c1_0 t130 _ (HS.getO 2 rfl) hc1_0 ha131) ?_
 clear ha131
 rintro _ w132 ⟨v133, bl134, rfl, hO_, hb⟩
 replace HB := HB.trans (hb.mono HB.size)
 replace HS := HS.got hb hO_
 dsimp only [List.cons_append, List.nil_append] at HS
 clear hO_
 exact by (
 obtain ⟨I135, bl136, HS⟩ := HS.unseal (sz := 1) rfl
 replace HS := HS.freezeN 1 (p := (rF kI t130.f0 I135)) rfl (fun _ hP_ _ => RepsB.reps hP_)
 dsimp only [List.eraseIdx] at HS
 refine ⟨HB, _, rfl, ?_⟩
 clear hb
 obtain ⟨A137, c138, rfl⟩ := row_slice (HS.mu 0 rfl)
 obtain ⟨t139, ha140, H⟩ := bind_some H
 refine dcs_ HS HB 3 (w_none rfl) func64 (laws_eqTable.runs k (⟨t76.f0, t76.f1⟩ : S67) A86 c87 t130 A137 c138 t139 _ (row_C rfl (HS.mu 7 rfl) (HS.getN 2 rfl)) (row_le (HS.mu 7 rfl)) (row_C rfl (HS.mu 0 rfl) (HS.getN 0 rfl)) (row_le (HS.mu 0 rfl)) ha140) (fun w141 HS HB => ?_)
 exact by (
 clear ha140
 refine dp_ 4 (fun _ => Run.not rfl rfl) ?_
 refine dd_ ?_
 clear HB HSW
 refine via_ hK128 ?_
 clear hK128
 rcases eti_ H with ⟨c142, H⟩ | ⟨c142, H⟩
 · refine wy_ (nB (bF c142)) (sr_ fun _ hK253 => ?_)
   exact by (
   refine ad_ hK253 ?_
   clear hK253
   obtain rfl := os H
   exact rt1 Try.f11 rfl rfl hR_ ⟨rfl, HS.b⟩ )
 refine wn_ (nB c142) (WC.skip (via_ hK127 (sr_ fun _ hK143 => ?_)))
 clear hK127
 refine ad_ hK143 ?_
 clear hK143
 exact by (
 refine sr_ fun _ hK144 => ?_
 refine v_ (ls_ (HS.mu 8 rfl) underlying58 part_all) ?_
 refine mv_ ?_
 refine ci_ (args := [.agg #[(.slice A71 t57.f0.length c72), (.slice A73 t57.f1.length c74)], vi 1]) func65 ?_
 refine cw_ (n := 14) func65 fun _ hR145 => ?_
 refine sr_ fun _ hK146 => ?_
 refine bo_ HS (fun b147 w148 hb147 HS => ?_)
 refine ad_ hK146 ?_
 exact by (
 clear hK146
 refine sr_ fun _ hK149 => ?_
 refine v_ (fa_ underlying58) ?_
 refine v_ (lb_ (HS.mu 0 rfl) underlying22 rfl) ?_
 refine mv_ ?_
 replace HS := HS.elsF (xs := t57.f0) (inner := I64) (Dk.int .i64) (fun _ _ _ h_ => ⟨h_, rfl⟩) (fun _ => (HS.getN 3 rfl))
 replace HS := HS.front 13 rfl
 dsimp only [List.eraseIdx] at HS
 exact by (
 replace HS := HS.seal rfl rfl
 obtain ⟨Lv150, hL151, HS⟩ := HS.pre2 lf3
 obtain ⟨⟨q152, q153⟩, H⟩ := if_some H
 refine c_ func20 (laws_markIntS.leaf A71 t57.f0.length c72 1 Lv150 _ (HS.preK 0 rfl) q152 (by rw [hL151]; exact q153) (1 + ((n22 t57.f0) : Int)) (by rw [hL151]; rfl)) ?_
 rintro _ w154 ⟨rfl, hm_⟩
 replace HS := HS.marked 0 rfl hm_
 dsimp only [List.set] at HS
 refine ⟨_, rfl, ?_⟩
 exact by (
 clear hm_
 have hn155 : ¬ (1 + ((n22 t57.f0) : Int)) < 0 := by omega
 refine ad_ hK149 ?_
 clear hK149
 refine sr_ fun _ hK156 => ?_
 refine v_ (fa_ underlying58) ?_
 refine v_ (lb_ (HS.mu 1 rfl) underlying56 rfl) ?_
 refine mv_ ?_
 exact by (
 replace HS := HS.front 12 rfl
 dsimp only [List.eraseIdx] at HS
 replace HS := HS.front 12 rfl
 dsimp only [List.eraseIdx] at HS
 replace HS := HS.seal rfl rfl
 obtain ⟨Lv157, hL158, HS⟩ := HS.pre2 lf71
 obtain ⟨⟨q159, q160⟩, H⟩ := if_some H
 refine c_ func128 (laws_markCellSS.leaf A73 t57.f1.length c74 (1 + ((n22 t57.f0) : Int)) Lv157 _ (HS.preK 0 rfl) q159 (by rw [hL158]; exact q160) ((1 + ((n22 t57.f0) : Int)) + ((n56 t57.f1) : Int)) (by rw [hL158]; rfl)) ?_
 exact by (
 rintro _ w161 ⟨rfl, hm_⟩
 replace HS := HS.marked 0 rfl hm_
 dsimp only [List.set] at HS
 refine ⟨_, rfl, ?_⟩
 clear hm_
 have hn162 : ¬ ((1 + ((n22 t57.f0) : Int)) + ((n56 t57.f1) : Int)) < 0 := by omega
 refine ad_ hK156 ?_
 clear hK156
 exact by (
 refine sr_ fun _ hK163 => ?_
 refine mv_ ?_
 refine ad_ hK163 ?_
 clear hK163
 refine WC.ret ?_
 refine fin1 Try.f65 rfl rfl hR145 ⟨_, rfl, ?_⟩
 refine ad_ hK144 ?_
 clear hK144
 exact by (
 refine sr_ fun _ hK164 => ?_
 refine v_ (ls_ (HS.mu 9 rfl) underlying67 part_all) ?_
 refine mv_ ?_
 refine ci_ (args := [.agg #[(.slice A86 t76.f0.length c87), vi t76.f1], vi ((1 + ((n22 t57.f0) : Int)) + ((n56 t57.f1) : Int))]) func66 ?_
 refine cw_ (n := 10) func66 fun _ hR165 => ?_
 refine sr_ fun _ hK166 => ?_
 refine bo_ HS (fun b167 w168 hb167 HS => ?_)
 refine ad_ hK166 ?_
 exact by (
 clear hK166
 refine sr_ fun _ hK169 => ?_
 refine v_ (fa_ underlying67) ?_
 refine v_ (lb_ (HS.mu 0 rfl) underlying22 rfl) ?_
 refine mv_ ?_
 replace HS := HS.elsF (xs := t76.f0) (inner := I81) (Dk.int .i64) (fun _ _ _ h_ => ⟨h_, rfl⟩) (fun _ => (HS.getN 2 rfl))
 replace HS := HS.front 12 rfl
 dsimp only [List.eraseIdx] at HS
 exact by (
 replace HS := HS.seal rfl rfl
 obtain ⟨Lv170, hL171, HS⟩ := HS.pre2 lf3
 obtain ⟨⟨q172, q173⟩, H⟩ := if_some H
 refine c_ func20 (laws_markIntS.leaf A86 t76.f0.length c87 ((1 + ((n22 t57.f0) : Int)) + ((n56 t57.f1) : Int)) Lv170 _ (HS.preK 0 rfl) q172 (by rw [hL171]; exact q173) (((1 + ((n22 t57.f0) : Int)) + ((n56 t57.f1) : Int)) + ((n22 t76.f0) : Int)) (by rw [hL171]; rfl)) ?_
 rintro _ w174 ⟨rfl, hm_⟩
 replace HS := HS.marked 0 rfl hm_
 dsimp only [List.set] at HS
 refine ⟨_, rfl, ?_⟩
 exact by (
 clear hm_
 have hn175 : ¬ (((1 + ((n22 t57.f0) : Int)) + ((n56 t57.f1) : Int)) + ((n22 t76.f0) : Int)) < 0 := by omega
 refine ad_ hK169 ?_
 clear hK169
 refine sr_ fun _ hK176 => ?_
 refine mv_ ?_
 refine ad_ hK176 ?_
 clear hK176
 exact by (
 refine WC.ret ?_
 refine fin1 Try.f66 rfl rfl hR165 ⟨_, rfl, ?_⟩
 refine ad_ hK164 ?_
 clear hK164
 refine WC.seq fun _ hK177 => ?_
 refine sr_ fun _ hK178 => ?_
 refine mv_ ?_
 refine b_ bin_lss ?_
 exact by (
 refine mv_ ?_
 refine on_ (dF hn175) (mv_ ?_)
 refine on_ (dF hn175) (mv_ ?_)
 refine on_ (dF hn175) ?_
 obtain ⟨t179, ha180, H⟩ := bind_some H
 refine cs_ HS func62 (laws_eqCellS.runs k A98 c99 t89.1 A52 c53 t49.1 t179 _ (row_C rfl (HS.mu 9 rfl) (HS.elsK 10 rfl)) (row_le (HS.mu 9 rfl)) (HS.getN 4 rfl) le54 ha180) (fun w181 HS => ?_)
 clear ha180
 refine on_ (dF hn175) (nt_ ?_)
 exact by (
 refine v_ (Run.pickF rfl rfl (dF hn175) rfl) ?_
 refine mv_ ?_
 rcases eti_ H with ⟨c182, H⟩ | ⟨c182, H⟩
 · refine off_ (c' := true) (nB (bF c182)) ?_
   refine WL.know 78 (nB (bF c182)) ?_
   refine fast_ ?_
   refine via_ hK178 (wy_ rfl ?_)
   clear hK178
   exact by (
   refine sr_ fun _ hK252 => ?_
   refine ad_ hK252 ?_
   clear hK252
   obtain rfl := os H
   exact rt1 Try.f11 rfl rfl hR_ ⟨rfl, HS.b⟩ )
 refine on_ (nB c182) (mv_ ?_)
 refine on_ (nB c182) (mv_ ?_)
 refine on_ (nB c182) (v_ (Run.binB rfl rfl rfl (bin_neqB underlying4)) ?_)
 exact by (
 refine v_ (Run.pickF rfl rfl (nB c182) rfl) ?_
 refine dn_ hK178 (wn_ (qF c104) (WC.skip (via_ hK177 (sr_ fun _ hK183 => ?_))))
 clear hK178 hK177
 refine ad_ hK183 ?_
 clear hK183
 refine sr_ fun _ hK184 => ?_
 refine mv_ ?_
 refine mv_ ?_
 exact by (
 replace HS := HS.front 10 rfl
 dsimp only [List.eraseIdx] at HS
 replace HS := HS.front 10 rfl
 dsimp only [List.eraseIdx] at HS
 replace HS := HS.seal rfl rfl
 obtain ⟨Lv185, hL186, HS⟩ := HS.pre2 lf62
 obtain ⟨⟨q187, q188⟩, H⟩ := if_some H
 refine c_ func67 (laws_markCellS.leaf A98 t89.1.length c99 1 Lv185 _ (HS.preK 0 rfl) q187 (by rw [hL186]; exact q188) (1 + ((n71 t89.1) : Int)) (by rw [hL186]; rfl)) ?_
 exact by (
 rintro _ w189 ⟨rfl, hm_⟩
 replace HS := HS.marked 0 rfl hm_
 dsimp only [List.set] at HS
 refine ⟨_, rfl, ?_⟩
 clear hm_
 have hn190 : ¬ (1 + ((n71 t89.1) : Int)) < 0 := by omega
 refine ad_ hK184 ?_
 clear hK184
 exact by (
 refine sr_ fun _ hK191 => ?_
 refine ad_ hK191 ?_
 clear hK191
 refine sr_ fun _ hK192 => ?_
 refine mv_ ?_
 refine mv_ ?_
 refine c_ func68 (laws_heldCellS.leaf A98 t89.1.length c99 1 Lv185 _ (HS.leafK 0 rfl) (HS.leafT 0 rfl) q187 (by rw [hL186]; exact q188) (1 + ((n71 t89.1) : Int)) (by rw [hL186]; rfl)) ?_
 rintro _ w193 ⟨rfl, hm_⟩
 exact by (
 replace HS := HS.below hm_
 refine ⟨_, rfl, ?_⟩
 clear hm_
 have hn194 : ¬ (1 + ((n71 t89.1) : Int)) < 0 := by omega
 refine ad_ hK192 ?_
 clear hK192
 refine WC.seq fun _ hK195 => ?_
 refine sr_ fun _ hK196 => ?_
 exact by (
 refine mv_ ?_
 refine b_ bin_lss ?_
 refine dn_ hK196 (wn_ (dF hn194) (WC.skip (via_ hK195 (WC.seq fun _ hK197 => ?_))))
 clear hK196 hK195
 refine sr_ fun _ hK198 => ?_
 refine mv_ ?_
 refine mv_ ?_
 refine b_ bin_neq ?_
 exact by (
 refine dn_ hK198 (wn_ (qF rfl) (WC.skip (via_ hK197 (WC.seq fun _ hK199 => ?_))))
 clear hK198 hK197
 refine WC.drawS HS [] rfl rfl (fun w200 HS => ?_)
 have HB := Below.refl w200.heap.size w200
 have HSW := HS
 refine dt_ 0 (Below.refl _ _) (fun w_ hw_ => Run.loadS (cs := [.slice A0_0 x0.f0.length c0_0, .slice A0_1 x0.f1.length c0_1]) rfl rfl underlying84 rfl (by kernel_rfl) (box_part ((HS.below hw_).mu 17 rfl) part_all)) ?_
 refine dt_ 2 (Below.refl _ _) (fun w_ hw_ => Run.loadS (cs := [.slice A1_0 x1.f0.length c1_0, vi x1.f1]) rfl rfl underlying85 rfl (by kernel_rfl) (box_part ((HS.below hw_).mu 16 rfl) part_all)) ?_
 obtain ⟨t201, ha202, H⟩ := bind_some H
 exact by (
 refine dc_ 1 (w_none rfl) func60 (laws_toStore.runs k (⟨x0.f0, x0.f1⟩ : S84) A0_0 c0_0 A0_1 c0_1 t201 _ (HS.getO 0 rfl) hc0_0 (HS.getO 1 rfl) hc0_1 ha202) ?_
 clear ha202
 rintro _ w203 ⟨v204, bl205, v206, bl207, rfl, hO_, hb⟩
 replace HB := HB.trans (hb.mono HB.size)
 replace HS := HS.got hb hO_
 dsimp only [List.cons_append, List.nil_append] at HS
 clear hO_
 obtain ⟨I208, bl209, HS⟩ := HS.unseal (sz := 1) rfl
 exact by (
 replace HS := HS.freezeN 1 (p := (rF kI t201.f0 I208)) rfl (fun _ hP_ _ => RepsB.reps hP_)
 dsimp only [List.eraseIdx] at HS
 replace HS := HS.front 1 rfl
 dsimp only [List.eraseIdx] at HS
 obtain ⟨I210, bl211, HS⟩ := HS.unseal (sz := 1) rfl
 refine ⟨HB, _, rfl, ?_⟩
 clear hb
 obtain ⟨t212, ha213, H⟩ := bind_some H
 exact by (
 refine dc_ 3 (w_none rfl) func61 (laws_toTable.runs k (⟨x1.f0, x1.f1⟩ : S85) A1_0 c1_0 t212 _ (HS.getO 2 rfl) hc1_0 ha213) ?_
 clear ha213
 rintro _ w214 ⟨v215, bl216, rfl, hO_, hb⟩
 replace HB := HB.trans (hb.mono HB.size)
 replace HS := HS.got hb hO_
 dsimp only [List.cons_append, List.nil_append] at HS
 clear hO_
 obtain ⟨I217, bl218, HS⟩ := HS.unseal (sz := 1) rfl
 exact by (
 replace HS := HS.freezeN 1 (p := (rF kI t212.f0 I217)) rfl (fun _ hP_ _ => RepsB.reps hP_)
 dsimp only [List.eraseIdx] at HS
 refine ⟨HB, _, rfl, ?_⟩
 clear hb
 obtain ⟨A219, c220, rfl⟩ := row_slice (HS.mu 3 rfl)
 obtain ⟨A221, c222, rfl⟩ := row_slice (HS.mu 1 rfl)
 obtain ⟨A223, c224, rfl⟩ := row_slice (HS.mu 0 rfl)
 obtain ⟨t225, ha226, H⟩ := bind_some H
 exact by (
 refine dc_ 4 (w_none rfl) func49 (impl_CellsOf.runs k t201 A219 c220 A221 c222 t212 A223 c224 t225.1 t225.2 _ (row_C rfl (HS.mu 3 rfl) (HS.getN 1 rfl)) (row_le (HS.mu 3 rfl)) (row_C rfl (HS.mu 1 rfl) (HS.elsK 2 rfl)) (row_le (HS.mu 1 rfl)) (row_C rfl (HS.mu 0 rfl) (HS.getN 0 rfl)) (row_le (HS.mu 0 rfl)) ha226) ?_
 clear ha226
 rintro _ w227 ⟨v228, bl229, rfl, hO_, hb⟩
 replace HB := HB.trans (hb.mono HB.size)
 replace HS := HS.got hb hO_
 dsimp only [List.cons_append, List.nil_append] at HS
 clear hO_
 obtain ⟨I230, bl231, HS⟩ := HS.unseal (sz := 2) rfl
 exact by (
 refine ⟨HB, _, rfl, ?_⟩
 clear hb
 refine dm_ 5 ?_
 refine dp_ 6 (fun _ => Run.extract rfl rfl rfl) ?_
 refine dp_ 7 (fun _ => Run.extract rfl rfl rfl) ?_
 refine dp_ 8 (fun _ => Run.assign rfl rfl) ?_
 refine dp_ 9 (fun _ => Run.assign rfl rfl) ?_
 refine dd_ ?_
 exact by (
 clear HB HSW
 refine via_ hK199 (WC.seq fun _ hK232 => ?_)
 clear hK199
 refine sr_ fun _ hK233 => ?_
 refine mv_ ?_
 refine mv_ ?_
 obtain ⟨A234, c235, rfl⟩ := row_slice (HS.mu 0 rfl)
 obtain ⟨t236, ha237, H⟩ := bind_some H
 exact by (
 refine cs_ HS func62 (laws_eqCellS.runs k A234 c235 t225.1 A52 c53 t49.1 t236 _ (row_C rfl (HS.mu 0 rfl) (HS.elsK 1 rfl)) (row_le (HS.mu 0 rfl)) (HS.getN 6 rfl) le54 ha237) (fun w238 HS => ?_)
 clear ha237
 refine nt_ ?_
 refine mv_ ?_
 rcases eti_ H with ⟨c239, H⟩ | ⟨c239, H⟩
 · refine off_ (c' := true) (nB (bF c239)) ?_
   refine WL.know 106 (nB (bF c239)) ?_
   refine fast_ ?_
   exact by (
   refine via_ hK233 (wy_ rfl ?_)
   clear hK233
   refine sr_ fun _ hK251 => ?_
   refine ad_ hK251 ?_
   clear hK251
   obtain rfl := os H
   exact rt1 Try.f11 rfl rfl hR_ ⟨rfl, HS.b⟩ )
 refine on_ (nB c239) (mv_ ?_)
 exact by (
 refine on_ (nB c239) (mv_ ?_)
 refine on_ (nB c239) (v_ (Run.binB rfl rfl rfl (bin_neqB underlying4)) ?_)
 refine v_ (Run.pickF rfl rfl (nB c239) rfl) ?_
 refine dn_ hK233 ?_
 clear hK233
 rcases eti_ H with ⟨c240, H⟩ | ⟨c240, H⟩
 · refine wy_ (qT c240) (sr_ fun _ hK250 => ?_)
   refine ad_ hK250 ?_
   exact by (
   clear hK250
   obtain rfl := os H
   exact rt1 Try.f11 rfl rfl hR_ ⟨rfl, HS.b⟩ )
 refine wn_ (qF c240) (WC.skip (via_ hK232 (sr_ fun _ hK241 => ?_)))
 clear hK232
 refine ad_ hK241 ?_
 clear hK241
 refine sr_ fun _ hK242 => ?_
 exact by (
 refine mv_ ?_
 refine mv_ ?_
 refine c_ func68 (laws_heldCellS.leaf A98 t89.1.length c99 1 Lv185 _ (HS.leafK 6 rfl) (HS.leafT 6 rfl) q187 (by rw [hL186]; exact q188) (1 + ((n71 t89.1) : Int)) (by rw [hL186]; rfl)) ?_
 rintro _ w243 ⟨rfl, hm_⟩
 replace HS := HS.below hm_
 refine ⟨_, rfl, ?_⟩
 clear hm_
 have hn244 : ¬ (1 + ((n71 t89.1) : Int)) < 0 := by omega
 exact by (
 refine ad_ hK242 ?_
 clear hK242
 refine WC.seq fun _ hK245 => ?_
 refine sr_ fun _ hK246 => ?_
 refine mv_ ?_
 refine b_ bin_lss ?_
 refine dn_ hK246 (wn_ (dF hn244) (WC.skip (via_ hK245 (WC.seq fun _ hK247 => ?_))))
 clear hK246 hK245
 exact by (
 refine sr_ fun _ hK248 => ?_
 refine mv_ ?_
 refine mv_ ?_
 refine b_ bin_neq ?_
 refine dn_ hK248 (wn_ (qF rfl) (WC.skip (via_ hK247 (sr_ fun _ hK249 => ?_))))
 clear hK248 hK247
 refine ad_ hK249 ?_
 clear hK249
 obtain rfl := os H
 exact rt1 Try.f11 rfl rfl hR_ ⟨rfl, HS.b⟩ ))))))))))))))))))))))))))))))))))))))))))))))))))))))))))))))))
def okT3 (x : Int) : Prop := (Lit.int .i64 x).wf = true
theorem opensT3 : XOpen.Opens prog 3 kI okT3 := XOpen.opens_int underlying3
def okT22 (xs : List Int) : Prop := xs.length ≤ 9223372036854775807 ∧ ∀ x ∈ xs, okT3 x
theorem opensT22 : XOpen.Opens prog 22 kS3 okT22 := XOpen.opens_slice underlying22 (by kernel_rfl) opensT3
def okT164 (x : S164) : Prop := okT3 x.f0 ∧ okT22 x.f1
theorem opensT164 : XOpen.Opens prog 164 k164 okT164 := by
 intro H enc w base held fuel cs x h
 obtain ⟨xs, n, _, _, hl, hlen, hf⟩ := DataW.trod_struct underlying164 h
 obtain ⟨a0, p0⟩ := XOpen.part_field hlen hf 0 rfl (by kernel_rfl) opensT3
 obtain ⟨a1, p1⟩ := XOpen.part_field hlen hf 1 rfl (by kernel_rfl) opensT22
 obtain ⟨hk, hg⟩ := XOpen.part_all (XOpen.part_pair p0 p1 rfl) (hl.trans (by kernel_rfl))
 exact ⟨⟨a0, a1⟩, hk, hg⟩
def okT160 (xs : List S164) : Prop := xs.length ≤ 9223372036854775807 ∧ ∀ x ∈ xs, okT164 x
theorem opensT160 : XOpen.Opens prog 160 kS164 okT160 := XOpen.opens_slice underlying160 (by kernel_rfl) opensT164
def okT96 (xs : List (List S164)) : Prop := xs.length ≤ 9223372036854775807 ∧ ∀ x ∈ xs, okT160 x
theorem opensT96 : XOpen.Opens prog 96 kS160 okT96 := XOpen.opens_slice underlying96 (by kernel_rfl) opensT160
def okT98 (x : S98) : Prop := okT96 x.f0 ∧ okT96 x.f1
theorem opensT98 : XOpen.Opens prog 98 k98 okT98 := by
 intro H enc w base held fuel cs x h
 obtain ⟨xs, n, _, _, hl, hlen, hf⟩ := DataW.trod_struct underlying98 h
 obtain ⟨a0, p0⟩ := XOpen.part_field hlen hf 0 rfl (by kernel_rfl) opensT96
 obtain ⟨a1, p1⟩ := XOpen.part_field hlen hf 1 rfl (by kernel_rfl) opensT96
 obtain ⟨hk, hg⟩ := XOpen.part_all (XOpen.part_pair p0 p1 rfl) (hl.trans (by kernel_rfl))
 exact ⟨⟨a0, a1⟩, hk, hg⟩
def okT156 (xs : List S98) : Prop := xs.length ≤ 9223372036854775807 ∧ ∀ x ∈ xs, okT98 x
theorem opensT156 : XOpen.Opens prog 156 kS98 okT156 := XOpen.opens_slice underlying156 (by kernel_rfl) opensT98
def okT82 (xs : List (List S98)) : Prop := xs.length ≤ 9223372036854775807 ∧ ∀ x ∈ xs, okT156 x
theorem opensT82 : XOpen.Opens prog 82 kS156 okT82 := XOpen.opens_slice underlying82 (by kernel_rfl) opensT156
def okT84 (x : S84) : Prop := okT22 x.f0 ∧ okT82 x.f1
theorem opensT84 : XOpen.Opens prog 84 k84 okT84 := by
 intro H enc w base held fuel cs x h
 obtain ⟨xs, n, _, _, hl, hlen, hf⟩ := DataW.trod_struct underlying84 h
 obtain ⟨a0, p0⟩ := XOpen.part_field hlen hf 0 rfl (by kernel_rfl) opensT22
 obtain ⟨a1, p1⟩ := XOpen.part_field hlen hf 1 rfl (by kernel_rfl) opensT82
 obtain ⟨hk, hg⟩ := XOpen.part_all (XOpen.part_pair p0 p1 rfl) (hl.trans (by kernel_rfl))
 exact ⟨⟨a0, a1⟩, hk, hg⟩
def okT85 (x : S85) : Prop := okT22 x.f0 ∧ okT3 x.f1
theorem opensT85 : XOpen.Opens prog 85 k85 okT85 := by
 intro H enc w base held fuel cs x h
 obtain ⟨xs, n, _, _, hl, hlen, hf⟩ := DataW.trod_struct underlying85 h
 obtain ⟨a0, p0⟩ := XOpen.part_field hlen hf 0 rfl (by kernel_rfl) opensT22
 obtain ⟨a1, p1⟩ := XOpen.part_field hlen hf 1 rfl (by kernel_rfl) opensT3
 obtain ⟨hk, hg⟩ := XOpen.part_all (XOpen.part_pair p0 p1 rfl) (hl.trans (by kernel_rfl))
 exact ⟨⟨a0, a1⟩, hk, hg⟩
def laws_FnExactCellsOf.Pure : Prop := ∀ (x0 : S84) (x1 : S85), okT84 x0 → okT85 x1 → ∃ k, laws_FnExactCellsOf.g k x0 x1 = some true
end Go.Proofs.Ytlpginalgdbopaa.PFnExactCellsOf
