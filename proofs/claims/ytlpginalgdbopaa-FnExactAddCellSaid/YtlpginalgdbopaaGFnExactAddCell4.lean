/- Functions that the statement reaches, as Lean functions, and the proof that a call of each comes to just its answer; written by this claim's own program. No conditions. -/
import Derived.Test.YtlpginalgdbopaaGFnExactAddCell3
namespace Go.Proofs.Ytlpginalgdbopaa.PFnExactAddCell
open Try
open Go.RowKit Go.Proofs.YtlpginalgdbopaaW.PrintWords Go.Proofs.YtlpginalgdbopaaW.PrintLast Go.Proofs.YtlpginalgdbopaaW.PrintMore Go.Proofs.Ytlpginalgdbopaa.XW Go.Proofs.Ytlpginalgdbopaa.XOp Go.Proofs.Ytlpginalgdbopaa.XSt Go.Proofs.Ytlpginalgdbopaa.XDraw
set_option linter.unusedVariables false
set_option linter.unusedSimpArgs false
set_option maxHeartbeats 4000000
set_option maxRecDepth 20000
def laws_FnExactAddCell.g (k : Nat) (x0 : S84) (x1 : S85) (x2 : S98) : Option Bool := ((laws_szStore.g k (⟨x0.f0, x0.f1⟩ : S84) 1048576).bind fun t10 => (if t10 < 0 then (some true) else ((laws_szTable.g k (⟨x1.f0, x1.f1⟩ : S85) t10).bind fun t18 => (if t18 < 0 then (some true) else ((laws_szCell.g k (⟨x2.f0, x2.f1⟩ : S98) t18).bind fun t26 => (if t26 < 0 then (some true) else ((laws_toStore.g k (⟨x0.f0, x0.f1⟩ : S84)).bind fun t36 => ((laws_toTable.g k (⟨x1.f0, x1.f1⟩ : S85)).bind fun t47 => ((laws_toCell.g k (⟨x2.f0, x2.f1⟩ : S98)).bind fun t54 => ((spec_AddCell.g k t36 t47 t54).bind fun t75 => ((laws_toStore.g k (⟨x0.f0, x0.f1⟩ : S84)).bind fun t1186 => ((laws_toTable.g k (⟨x1.f0, x1.f1⟩ : S85)).bind fun t1205 => ((laws_toCell.g k (⟨x2.f0, x2.f1⟩ : S98)).bind fun t1218 => ((impl_AddCell.g k (⟨t1186.f0, t1186.f1⟩ : S58) (⟨t1205.f0, t1205.f1⟩ : S67) (⟨t1218.f0, t1218.f1⟩ : S62)).bind fun t1237 => ((laws_eqStore.g k (⟨t1237.1.f0, t1237.1.f1⟩ : S58) (⟨t75.1.f0, t75.1.f1⟩ : S58)).bind fun t1266 => (if t1266 = true then ((laws_eqTable.g k (⟨t1237.2.1.f0, t1237.2.1.f1⟩ : S67) (⟨t75.2.1.f0, t75.2.1.f1⟩ : S67)).bind fun t1270 => (if t1270 = true then (if t1237.2.2 = t75.2.2 then ((laws_toStore.g k (⟨x0.f0, x0.f1⟩ : S84)).bind fun t1278 => ((laws_eqStore.g k (⟨t1186.f0, t1186.f1⟩ : S58) t1278).bind fun t1293 => (if t1293 = true then ((laws_toTable.g k (⟨x1.f0, x1.f1⟩ : S85)).bind fun t1300 => ((laws_eqTable.g k (⟨t1205.f0, t1205.f1⟩ : S67) t1300).bind fun t1309 => (if t1309 = true then ((laws_toCell.g k (⟨x2.f0, x2.f1⟩ : S98)).bind fun t1316 => ((laws_eqCell.g k (⟨t1218.f0, t1218.f1⟩ : S62) t1316).bind fun t1331 => (if t1331 = true then (if (0 : Int) ≤ 1 ∧ 1 + ((n22 t1186.f0) : Int) ≤ 4611686018427387904 then (if 0 ≤ (1 + ((n22 t1186.f0) : Int)) ∧ (1 + ((n22 t1186.f0) : Int)) + ((n56 t1186.f1) : Int) ≤ 4611686018427387904 then (if 0 ≤ ((1 + ((n22 t1186.f0) : Int)) + ((n56 t1186.f1) : Int)) ∧ ((1 + ((n22 t1186.f0) : Int)) + ((n56 t1186.f1) : Int)) + ((n22 t1205.f0) : Int) ≤ 4611686018427387904 then (if 0 ≤ (((1 + ((n22 t1186.f0) : Int)) + ((n56 t1186.f1) : Int)) + ((n22 t1205.f0) : Int)) ∧ (((1 + ((n22 t1186.f0) : Int)) + ((n56 t1186.f1) : Int)) + ((n22 t1205.f0) : Int)) + ((n60 t1218.f0) : Int) ≤ 4611686018427387904 then (if 0 ≤ ((((1 + ((n22 t1186.f0) : Int)) + ((n56 t1186.f1) : Int)) + ((n22 t1205.f0) : Int)) + ((n60 t1218.f0) : Int)) ∧ ((((1 + ((n22 t1186.f0) : Int)) + ((n56 t1186.f1) : Int)) + ((n22 t1205.f0) : Int)) + ((n60 t1218.f0) : Int)) + ((n60 t1218.f1) : Int) ≤ 4611686018427387904 then ((laws_eqStore.g k (⟨t1237.1.f0, t1237.1.f1⟩ : S58) (⟨t75.1.f0, t75.1.f1⟩ : S58)).bind fun t1391 => (if t1391 = true then ((laws_eqTable.g k (⟨t1237.2.1.f0, t1237.2.1.f1⟩ : S67) (⟨t75.2.1.f0, t75.2.1.f1⟩ : S67)).bind fun t1395 => (if t1395 = true then (if (0 : Int) ≤ 1 ∧ 1 + ((n22 t1237.1.f0) : Int) ≤ 4611686018427387904 then (if 0 ≤ (1 + ((n22 t1237.1.f0) : Int)) ∧ (1 + ((n22 t1237.1.f0) : Int)) + ((n56 t1237.1.f1) : Int) ≤ 4611686018427387904 then (if 0 ≤ ((1 + ((n22 t1237.1.f0) : Int)) + ((n56 t1237.1.f1) : Int)) ∧ ((1 + ((n22 t1237.1.f0) : Int)) + ((n56 t1237.1.f1) : Int)) + ((n22 t1237.2.1.f0) : Int) ≤ 4611686018427387904 then ((laws_toStore.g k (⟨x0.f0, x0.f1⟩ : S84)).bind fun t1470 => ((laws_toTable.g k (⟨x1.f0, x1.f1⟩ : S85)).bind fun t1481 => ((laws_toCell.g k (⟨x2.f0, x2.f1⟩ : S98)).bind fun t1488 => ((impl_AddCell.g k t1470 t1481 t1488).bind fun t1509 => ((laws_eqStore.g k (⟨t1509.1.f0, t1509.1.f1⟩ : S58) (⟨t75.1.f0, t75.1.f1⟩ : S58)).bind fun t2627 => (if t2627 = true then ((laws_eqTable.g k (⟨t1509.2.1.f0, t1509.2.1.f1⟩ : S67) (⟨t75.2.1.f0, t75.2.1.f1⟩ : S67)).bind fun t2631 => (if t2631 = true then (if t1509.2.2 = t75.2.2 then (some true) else (some false)) else (some false))) else (some false))))))) else none) else none) else none) else (some false))) else (some false))) else none) else none) else none) else none) else none) else (some false)))) else (some false)))) else (some false)))) else (some false)) else (some false))) else (some false)))))))))))))))))
theorem laws_FnExactAddCell.runs (k : Nat) (x0 : S84) (A0_0 : Option Addr) (c0_0 : Nat) (A0_1 : Option Addr) (c0_1 : Nat) (x1 : S85) (A1_0 : Option Addr) (c1_0 : Nat) (x2 : S98) (A2_0 : Option Addr) (c2_0 : Nat) (A2_1 : Option Addr) (c2_1 : Nat) (r : Bool) (w : World) (hr0_0 : kI.C w A0_0 x0.f0.length x0.f0) (hc0_0 : x0.f0.length ≤ c0_0) (hr0_1 : kS98.C w A0_1 x0.f1.length x0.f1) (hc0_1 : x0.f1.length ≤ c0_1) (hr1_0 : kI.C w A1_0 x1.f0.length x1.f0) (hc1_0 : x1.f0.length ≤ c1_0) (hr2_0 : kS164.C w A2_0 x2.f0.length x2.f0) (hc2_0 : x2.f0.length ≤ c2_0) (hr2_1 : kS164.C w A2_1 x2.f1.length x2.f1) (hc2_1 : x2.f1.length ≤ c2_1) (H : laws_FnExactAddCell.g k x0 x1 x2 = some r) :
   Calls prog 14 #[.agg #[.slice A0_0 x0.f0.length c0_0, .slice A0_1 x0.f1.length c0_1], .agg #[.slice A1_0 x1.f0.length c1_0, vi x1.f1], .agg #[.slice A2_0 x2.f0.length c2_0, .slice A2_1 x2.f1.length c2_1]] w fun e w' => e = .returned (.bool r) ∧ Below w.heap.size w w' := by
 unfold laws_FnExactAddCell.g at H
 have HS : St (fun _ => True) w w [] [(cF kI A0_0 x0.f0), (cF kS98 A0_1 x0.f1), (cF kI A1_0 x1.f0), (cF kS164 A2_0 x2.f0), (cF kS164 A2_1 x2.f1)] [] := St.start (foot_cons (foot_C (Kd.heap_int _) hr0_0) (foot_cons (foot_C (Kd.heap_slice _ h98) hr0_1) (foot_cons (foot_C (Kd.heap_int _) hr1_0) (foot_cons (foot_C (Kd.heap_slice _ h164) hr2_0) (foot_cons (foot_C (Kd.heap_slice _ h164) hr2_1) foot_nil)))))
 refine cw_ (n := 179) func14 fun R_ hR_ => ?_
 refine sr_ fun _ hK1 => ?_
 refine bo_ HS (fun b2 w3 hb2 HS => ?_)
 refine bo_ HS (fun b4 w5 hb4 HS => ?_)
 refine bo_ HS (fun b6 w7 hb6 HS => ?_)
 refine ad_ hK1 ?_
 exact by (
 clear hK1
 refine sr_ fun _ hK8 => ?_
 refine ad_ hK8 ?_
 clear hK8
 refine sr_ fun _ hK9 => ?_
 refine v_ (ls_ (HS.mu 2 rfl) underlying84 part_all) ?_
 refine mv_ ?_
 obtain ⟨t10, ha11, H⟩ := bind_some H
 exact by (
 refine cs_ HS func58 (laws_szStore.runs k (⟨x0.f0, x0.f1⟩ : S84) A0_0 c0_0 A0_1 c0_1 1048576 t10 _ (HS.getO 0 rfl) hc0_0 (HS.getO 1 rfl) hc0_1 ha11) (fun w12 HS => ?_)
 clear ha11
 refine ad_ hK9 ?_
 clear hK9
 refine WC.seq fun _ hK13 => ?_
 refine sr_ fun _ hK14 => ?_
 refine mv_ ?_
 refine b_ bin_lss ?_
 exact by (
 refine dn_ hK14 ?_
 clear hK14
 rcases ite_ H with ⟨c15, H⟩ | ⟨c15, H⟩
 · refine wy_ (dT c15) (sr_ fun _ hK16 => ?_)
   refine ad_ hK16 ?_
   clear hK16
   obtain rfl := os H
   exact rt1 Try.f14 rfl rfl hR_ ⟨rfl, HS.b⟩
 exact by (
 refine wn_ (dF c15) (WC.skip (via_ hK13 (sr_ fun _ hK17 => ?_)))
 clear hK13
 refine v_ (ls_ (HS.mu 1 rfl) underlying85 part_all) ?_
 refine mv_ ?_
 obtain ⟨t18, ha19, H⟩ := bind_some H
 refine cs_ HS func59 (laws_szTable.runs k (⟨x1.f0, x1.f1⟩ : S85) A1_0 c1_0 t10 t18 _ (HS.getO 2 rfl) hc1_0 ha19) (fun w20 HS => ?_)
 clear ha19
 refine ad_ hK17 ?_
 exact by (
 clear hK17
 refine WC.seq fun _ hK21 => ?_
 refine sr_ fun _ hK22 => ?_
 refine mv_ ?_
 refine b_ bin_lss ?_
 refine dn_ hK22 ?_
 clear hK22
 rcases ite_ H with ⟨c23, H⟩ | ⟨c23, H⟩
 · refine wy_ (dT c23) (sr_ fun _ hK24 => ?_)
   exact by (
   refine ad_ hK24 ?_
   clear hK24
   obtain rfl := os H
   exact rt1 Try.f14 rfl rfl hR_ ⟨rfl, HS.b⟩ )
 refine wn_ (dF c23) (WC.skip (via_ hK21 (sr_ fun _ hK25 => ?_)))
 clear hK21
 refine v_ (ls_ (HS.mu 0 rfl) underlying98 part_all) ?_
 refine mv_ ?_
 exact by (
 obtain ⟨t26, ha27, H⟩ := bind_some H
 refine cs_ HS func73 (laws_szCell.runs k (⟨x2.f0, x2.f1⟩ : S98) A2_0 c2_0 A2_1 c2_1 t18 t26 _ (HS.getO 3 rfl) hc2_0 (HS.getO 4 rfl) hc2_1 ha27) (fun w28 HS => ?_)
 clear ha27
 refine ad_ hK25 ?_
 clear hK25
 refine WC.seq fun _ hK29 => ?_
 refine sr_ fun _ hK30 => ?_
 refine mv_ ?_
 exact by (
 refine b_ bin_lss ?_
 refine dn_ hK30 ?_
 clear hK30
 rcases ite_ H with ⟨c31, H⟩ | ⟨c31, H⟩
 · refine wy_ (dT c31) (sr_ fun _ hK32 => ?_)
   refine ad_ hK32 ?_
   clear hK32
   obtain rfl := os H
   exact rt1 Try.f14 rfl rfl hR_ ⟨rfl, HS.b⟩
 exact by (
 refine wn_ (dF c31) (WC.skip (via_ hK29 (WC.seq fun _ hK33 => ?_)))
 clear hK29
 refine WC.drawW HS [boxM b6 #[.slice A2_0 x2.f0.length c2_0, .slice A2_1 x2.f1.length c2_1] 98, boxM b4 #[.slice A1_0 x1.f0.length c1_0, vi x1.f1] 85, boxM b2 #[.slice A0_0 x0.f0.length c0_0, .slice A0_1 x0.f1.length c0_1] 84] (fun _ HS => ⟨(HS.mu 0 rfl), (HS.mu 1 rfl), (HS.mu 2 rfl), trivial⟩) [] rfl rfl (fun w34 HS => ?_)
 refine dt_ 0 ⟨HS.nowO, HS.nowN, ⟨(HS.mu 0 rfl), (HS.mu 1 rfl), (HS.mu 2 rfl), trivial⟩⟩ (fun w_ hw_ => Run.loadS (cs := [.slice A0_0 x0.f0.length c0_0, .slice A0_1 x0.f1.length c0_1]) rfl rfl underlying84 rfl (by kernel_rfl) (box_part hw_.2.2.2.2.1 part_all)) ?_
 refine dt_ 2 ⟨HS.nowO, HS.nowN, ⟨(HS.mu 0 rfl), (HS.mu 1 rfl), (HS.mu 2 rfl), trivial⟩⟩ (fun w_ hw_ => Run.loadS (cs := [.slice A1_0 x1.f0.length c1_0, vi x1.f1]) rfl rfl underlying85 rfl (by kernel_rfl) (box_part hw_.2.2.2.1 part_all)) ?_
 refine dt_ 4 ⟨HS.nowO, HS.nowN, ⟨(HS.mu 0 rfl), (HS.mu 1 rfl), (HS.mu 2 rfl), trivial⟩⟩ (fun w_ hw_ => Run.loadS (cs := [.slice A2_0 x2.f0.length c2_0, .slice A2_1 x2.f1.length c2_1]) rfl rfl underlying98 rfl (by kernel_rfl) (box_part hw_.2.2.1 part_all)) ?_
 refine joinWD (fun E_ W_ => ∃ (b90 : Nat) (b92 : Nat) (A65 : Option Addr) (t36 : S58) (c66 : Nat) (A67 : Option Addr) (c68 : Nat) (A69 : Option Addr) (t47 : S67) (c70 : Nat) (A71 : Option Addr) (t54 : S62) (c72 : Nat) (A73 : Option Addr) (c74 : Nat) (A78 : Option Addr) (t75 : S58 × S67 × Bool) (c79 : Nat) (A82 : Option Addr) (c83 : Nat) (A86 : Option Addr) (c87 : Nat) (I63 : List Value) (bl64 : List Nat) (I61 : List Value) (bl62 : List Nat) (I52 : List Value) (I45 : List Value) (bl46 : List Nat) (I43 : List Value), E_ = [(0, .agg #[.slice A0_0 x0.f0.length c0_0, .slice A0_1 x0.f1.length c0_1]), (1, .agg #[.slice A1_0 x1.f0.length c1_0, vi x1.f1]), (2, .agg #[.slice A2_0 x2.f0.length c2_0, .slice A2_1 x2.f1.length c2_1]), (3, .pointer (some ⟨b2, 0, none⟩)), (4, .pointer (some ⟨b4, 0, none⟩)), (5, .pointer (some ⟨b6, 0, none⟩)), (6, .bool false), (7, vi t26), (8, .pointer (some ⟨b90, 0, none⟩)), (9, .pointer (some ⟨b92, 0, none⟩)), (23, .agg #[.slice A0_0 x0.f0.length c0_0, .slice A0_1 x0.f1.length c0_1]), (24, vi 1048576), (25, vi t10), (26, vi t10), (27, .bool (decide (t10 < 0))), (28, .agg #[.slice A1_0 x1.f0.length c1_0, vi x1.f1]), (29, vi t10), (30, vi t18), (31, vi t18), (32, .bool (decide (t18 < 0))), (33, .agg #[.slice A2_0 x2.f0.length c2_0, .slice A2_1 x2.f1.length c2_1]), (34, vi t18), (35, vi t26), (36, vi t26), (37, .bool (decide (t26 < 0))), (39, .agg #[.slice A0_0 x0.f0.length c0_0, .slice A0_1 x0.f1.length c0_1]), (40, .agg #[(.slice A65 t36.f0.length c66), (.slice A67 t36.f1.length c68)]), (41, .agg #[.slice A1_0 x1.f0.length c1_0, vi x1.f1]), (42, .agg #[(.slice A69 t47.f0.length c70), vi t47.f1]), (43, .agg #[.slice A2_0 x2.f0.length c2_0, .slice A2_1 x2.f1.length c2_1]), (44, .agg #[(.slice A71 t54.f0.length c72), (.slice A73 t54.f1.length c74)]), (46, .agg #[.slice A78 t75.1.f0.length c79, .slice A82 t75.1.f1.length c83]), (47, .agg #[.slice A86 t75.2.1.f0.length c87, vi t75.2.1.f1]), (48, .bool t75.2.2)] ∧ ((laws_toStore.g k (⟨x0.f0, x0.f1⟩ : S84)).bind fun t1186 => ((laws_toTable.g k (⟨x1.f0, x1.f1⟩ : S85)).bind fun t1205 => ((laws_toCell.g k (⟨x2.f0, x2.f1⟩ : S98)).bind fun t1218 => ((impl_AddCell.g k (⟨t1186.f0, t1186.f1⟩ : S58) (⟨t1205.f0, t1205.f1⟩ : S67) (⟨t1218.f0, t1218.f1⟩ : S62)).bind fun t1237 => ((laws_eqStore.g k (⟨t1237.1.f0, t1237.1.f1⟩ : S58) (⟨t75.1.f0, t75.1.f1⟩ : S58)).bind fun t1266 => (if t1266 = true then ((laws_eqTable.g k (⟨t1237.2.1.f0, t1237.2.1.f1⟩ : S67) (⟨t75.2.1.f0, t75.2.1.f1⟩ : S67)).bind fun t1270 => (if t1270 = true then (if t1237.2.2 = t75.2.2 then ((laws_toStore.g k (⟨x0.f0, x0.f1⟩ : S84)).bind fun t1278 => ((laws_eqStore.g k (⟨t1186.f0, t1186.f1⟩ : S58) t1278).bind fun t1293 => (if t1293 = true then ((laws_toTable.g k (⟨x1.f0, x1.f1⟩ : S85)).bind fun t1300 => ((laws_eqTable.g k (⟨t1205.f0, t1205.f1⟩ : S67) t1300).bind fun t1309 => (if t1309 = true then ((laws_toCell.g k (⟨x2.f0, x2.f1⟩ : S98)).bind fun t1316 => ((laws_eqCell.g k (⟨t1218.f0, t1218.f1⟩ : S62) t1316).bind fun t1331 => (if t1331 = true then (if (0 : Int) ≤ 1 ∧ 1 + ((n22 t1186.f0) : Int) ≤ 4611686018427387904 then (if 0 ≤ (1 + ((n22 t1186.f0) : Int)) ∧ (1 + ((n22 t1186.f0) : Int)) + ((n56 t1186.f1) : Int) ≤ 4611686018427387904 then (if 0 ≤ ((1 + ((n22 t1186.f0) : Int)) + ((n56 t1186.f1) : Int)) ∧ ((1 + ((n22 t1186.f0) : Int)) + ((n56 t1186.f1) : Int)) + ((n22 t1205.f0) : Int) ≤ 4611686018427387904 then (if 0 ≤ (((1 + ((n22 t1186.f0) : Int)) + ((n56 t1186.f1) : Int)) + ((n22 t1205.f0) : Int)) ∧ (((1 + ((n22 t1186.f0) : Int)) + ((n56 t1186.f1) : Int)) + ((n22 t1205.f0) : Int)) + ((n60 t1218.f0) : Int) ≤ 4611686018427387904 then (if 0 ≤ ((((1 + ((n22 t1186.f0) : Int)) + ((n56 t1186.f1) : Int)) + ((n22 t1205.f0) : Int)) + ((n60 t1218.f0) : Int)) ∧ ((((1 + ((n22 t1186.f0) : Int)) + ((n56 t1186.f1) : Int)) + ((n22 t1205.f0) : Int)) + ((n60 t1218.f0) : Int)) + ((n60 t1218.f1) : Int) ≤ 4611686018427387904 then ((laws_eqStore.g k (⟨t1237.1.f0, t1237.1.f1⟩ : S58) (⟨t75.1.f0, t75.1.f1⟩ : S58)).bind fun t1391 => (if t1391 = true then ((laws_eqTable.g k (⟨t1237.2.1.f0, t1237.2.1.f1⟩ : S67) (⟨t75.2.1.f0, t75.2.1.f1⟩ : S67)).bind fun t1395 => (if t1395 = true then (if (0 : Int) ≤ 1 ∧ 1 + ((n22 t1237.1.f0) : Int) ≤ 4611686018427387904 then (if 0 ≤ (1 + ((n22 t1237.1.f0) : Int)) ∧ (1 + ((n22 t1237.1.f0) : Int)) + ((n56 t1237.1.f1) : Int) ≤ 4611686018427387904 then (if 0 ≤ ((1 + ((n22 t1237.1.f0) : Int)) + ((n56 t1237.1.f1) : Int)) ∧ ((1 + ((n22 t1237.1.f0) : Int)) + ((n56 t1237.1.f1) : Int)) + ((n22 t1237.2.1.f0) : Int) ≤ 4611686018427387904 then ((laws_toStore.g k (⟨x0.f0, x0.f1⟩ : S84)).bind fun t1470 => ((laws_toTable.g k (⟨x1.f0, x1.f1⟩ : S85)).bind fun t1481 => ((laws_toCell.g k (⟨x2.f0, x2.f1⟩ : S98)).bind fun t1488 => ((impl_AddCell.g k t1470 t1481 t1488).bind fun t1509 => ((laws_eqStore.g k (⟨t1509.1.f0, t1509.1.f1⟩ : S58) (⟨t75.1.f0, t75.1.f1⟩ : S58)).bind fun t2627 => (if t2627 = true then ((laws_eqTable.g k (⟨t1509.2.1.f0, t1509.2.1.f1⟩ : S67) (⟨t75.2.1.f0, t75.2.1.f1⟩ : S67)).bind fun t2631 => (if t2631 = true then (if t1509.2.2 = t75.2.2 then (some true) else (some false)) else (some false))) else (some false))))))) else none) else none) else none) else (some false))) else (some false))) else none) else none) else none) else none) else none) else (some false)))) else (some false)))) else (some false)))) else (some false)) else (some false))) else (some false))))))) = some r ∧ t75.1.f0.length ≤ c79 ∧ t75.1.f1.length ≤ c83 ∧ t75.2.1.f0.length ≤ c87 ∧ St (fun _ => True) w W_ [boxM b92 #[sn, vi 0] 67, boxM b90 #[sn, sn] 58, rowM w.heap.size 133 1 (.slice A73 t54.f1.length c74) t54.f1.length I63, elsM (Dk.slice 149 dq149) t54.f1 I63 bl64, rowM w.heap.size 133 1 (.slice A71 t54.f0.length c72) t54.f0.length I61, elsM (Dk.slice 149 dq149) t54.f0 I61 bl62, rowM w.heap.size 3 1 (.slice A69 t47.f0.length c70) t47.f0.length I52, rowM w.heap.size 71 1 (.slice A67 t36.f1.length c68) t36.f1.length I45, elsM (Dk.slice 62 dq62) t36.f1 I45 bl46, rowM w.heap.size 3 1 (.slice A65 t36.f0.length c66) t36.f0.length I43, boxM b6 #[.slice A2_0 x2.f0.length c2_0, .slice A2_1 x2.f1.length c2_1] 98, boxM b4 #[.slice A1_0 x1.f0.length c1_0, vi x1.f1] 85, boxM b2 #[.slice A0_0 x0.f0.length c0_0, .slice A0_1 x0.f1.length c0_1] 84] [(cF kI A0_0 x0.f0), (cF kS98 A0_1 x0.f1), (cF kI A1_0 x1.f0), (cF kS164 A2_0 x2.f0), (cF kS164 A2_1 x2.f1)] [(cF kI A78 t75.1.f0), (cF kS62 A82 t75.1.f1), (cF kI A86 t75.2.1.f0), (rF kI t47.f0 I52), (rF kI t36.f0 I43)]) [1, 3, 5, 6, 7, 8, 9, 10, 11, 12] 3 ?_ (fun X35 => ?_)
 · rintro E_ w1182 ⟨b90, b92, A65, t36, c66, A67, c68, A69, t47, c70, A71, t54, c72, A73, c74, A78, t75, c79, A82, c83, A86, c87, I63, bl64, I61, bl62, I52, I45, bl46, I43, rfl, H, le80, le84, le88, HS⟩
   exact by (
   refine WD.storeS 13 HS 1 rfl rfl rfl rfl (oneL rfl) (by kernel_rfl) (ble_ rfl) (cs' := #[.slice A78 t75.1.f0.length c79, .slice A82 t75.1.f1.length c83]) (by kernel_rfl) (fun w1183 HS => ?_)
   dsimp only [List.set] at HS
   refine ⟨⟨HS.nowO, HS.nowN.2.2.2.2.2, ⟨(HS.mu 10 rfl), (HS.mu 11 rfl), (HS.mu 12 rfl), trivial⟩⟩, ?_⟩
   refine WD.storeS 14 HS 0 rfl rfl rfl rfl (oneL rfl) (by kernel_rfl) (ble_ rfl) (cs' := #[.slice A86 t75.2.1.f0.length c87, vi t75.2.1.f1]) (by kernel_rfl) (fun w1184 HS => ?_)
   dsimp only [List.set] at HS
   refine ⟨⟨HS.nowO, HS.nowN.2.2.2.2.2, ⟨(HS.mu 10 rfl), (HS.mu 11 rfl), (HS.mu 12 rfl), trivial⟩⟩, ?_⟩
   refine dp_ 15 (fun _ => Run.assign rfl rfl) ?_
   refine dd_ (via_ hK33 (sr_ fun _ hK1185 => ?_))
   exact by (
   clear hK33
   refine v_ (ls_ (HS.mu 12 rfl) underlying84 part_all) ?_
   obtain ⟨t1186, ha1187, H⟩ := bind_some H
   refine c_ func60 (laws_toStore.runs k (⟨x0.f0, x0.f1⟩ : S84) A0_0 c0_0 A0_1 c0_1 t1186 _ (HS.getO 0 rfl) hc0_0 (HS.getO 1 rfl) hc0_1 ha1187) ?_
   clear ha1187
   rintro _ w1188 ⟨v1189, bl1190, v1191, bl1192, rfl, hO_, hb⟩
   replace HS := HS.got hb hO_
   dsimp only [List.cons_append, List.nil_append] at HS
   exact by (
   clear hO_
   obtain ⟨I1193, bl1194, HS⟩ := HS.unseal (sz := 1) rfl
   replace HS := HS.freezeN 1 (p := (rF kI t1186.f0 I1193)) rfl (fun _ hP_ _ => RepsB.reps hP_)
   dsimp only [List.eraseIdx] at HS
   replace HS := HS.front 1 rfl
   dsimp only [List.eraseIdx] at HS
   obtain ⟨I1195, bl1196, HS⟩ := HS.unseal (sz := 1) rfl
   refine ⟨_, rfl, ?_⟩
   exact by (
   clear hb
   refine WL.alloc HS (v := .agg #[sn, sn]) (cs := #[sn, sn]) rfl rfl (by decide) rfl (by kernel_rfl) rfl (fun b1197 w1198 hb1197 HS => ?_)
   obtain ⟨A1200, c1201, rfl⟩ := row_slice (HS.mu 3 rfl)
   obtain ⟨A1202, c1203, rfl⟩ := row_slice (HS.mu 1 rfl)
   refine WL.storeW HS 0 rfl rfl rfl rfl rfl rfl (oneL rfl) (by kernel_rfl) rfl (fun w1199 HS => ?_)
   dsimp only [List.set] at HS
   refine dn_ hK1185 (sr_ fun _ hK1204 => ?_)
   clear hK1185
   exact by (
   refine v_ (ls_ (HS.mu 15 rfl) underlying85 part_all) ?_
   obtain ⟨t1205, ha1206, H⟩ := bind_some H
   refine c_ func61 (laws_toTable.runs k (⟨x1.f0, x1.f1⟩ : S85) A1_0 c1_0 t1205 _ (HS.getO 2 rfl) hc1_0 ha1206) ?_
   clear ha1206
   rintro _ w1207 ⟨v1208, bl1209, rfl, hO_, hb⟩
   replace HS := HS.got hb hO_
   dsimp only [List.cons_append, List.nil_append] at HS
   clear hO_
   exact by (
   obtain ⟨I1210, bl1211, HS⟩ := HS.unseal (sz := 1) rfl
   replace HS := HS.freezeN 1 (p := (rF kI t1205.f0 I1210)) rfl (fun _ hP_ _ => RepsB.reps hP_)
   dsimp only [List.eraseIdx] at HS
   refine ⟨_, rfl, ?_⟩
   clear hb
   refine WL.alloc HS (v := .agg #[sn, vi 0]) (cs := #[sn, vi 0]) rfl rfl (by decide) rfl (by kernel_rfl) rfl (fun b1212 w1213 hb1212 HS => ?_)
   obtain ⟨A1215, c1216, rfl⟩ := row_slice (HS.mu 1 rfl)
   refine WL.storeW HS 0 rfl rfl rfl rfl rfl rfl (oneL rfl) (by kernel_rfl) rfl (fun w1214 HS => ?_)
   exact by (
   dsimp only [List.set] at HS
   refine dn_ hK1204 (sr_ fun _ hK1217 => ?_)
   clear hK1204
   refine v_ (ls_ (HS.mu 16 rfl) underlying98 part_all) ?_
   obtain ⟨t1218, ha1219, H⟩ := bind_some H
   refine c_ func74 (laws_toCell.runs k (⟨x2.f0, x2.f1⟩ : S98) A2_0 c2_0 A2_1 c2_1 t1218 _ (HS.getO 3 rfl) hc2_0 (HS.getO 4 rfl) hc2_1 ha1219) ?_
   clear ha1219
   rintro _ w1220 ⟨v1221, bl1222, v1223, bl1224, rfl, hO_, hb⟩
   exact by (
   replace HS := HS.got hb hO_
   dsimp only [List.cons_append, List.nil_append] at HS
   clear hO_
   obtain ⟨I1225, bl1226, HS⟩ := HS.unseal (sz := 1) rfl
   replace HS := HS.front 2 rfl
   dsimp only [List.eraseIdx] at HS
   obtain ⟨I1227, bl1228, HS⟩ := HS.unseal (sz := 1) rfl
   refine ⟨_, rfl, ?_⟩
   exact by (
   clear hb
   refine WL.alloc HS (v := .agg #[sn, sn]) (cs := #[sn, sn]) rfl rfl (by decide) rfl (by kernel_rfl) rfl (fun b1229 w1230 hb1229 HS => ?_)
   obtain ⟨A1232, c1233, rfl⟩ := row_slice (HS.mu 3 rfl)
   obtain ⟨A1234, c1235, rfl⟩ := row_slice (HS.mu 1 rfl)
   refine WL.storeW HS 0 rfl rfl rfl rfl rfl rfl (oneL rfl) (by kernel_rfl) rfl (fun w1231 HS => ?_)
   dsimp only [List.set] at HS
   refine dn_ hK1217 (sr_ fun _ hK1236 => ?_)
   clear hK1217
   exact by (
   refine v_ (ls_ (HS.mu 7 rfl) underlying58 part_all) ?_
   refine v_ (ls_ (HS.mu 5 rfl) underlying67 part_all) ?_
   refine v_ (ls_ (HS.mu 0 rfl) underlying62 part_all) ?_
   obtain ⟨t1237, ha1238, H⟩ := bind_some H
   refine c_ func45 (impl_AddCell.runs k (⟨t1186.f0, t1186.f1⟩ : S58) A1200 c1201 A1202 c1203 (⟨t1205.f0, t1205.f1⟩ : S67) A1215 c1216 (⟨t1218.f0, t1218.f1⟩ : S62) A1232 c1233 A1234 c1235 t1237.1 t1237.2.1 t1237.2.2 _ (row_C rfl (HS.mu 10 rfl) (HS.getN 1 rfl)) (row_le (HS.mu 10 rfl)) (row_C rfl (HS.mu 8 rfl) (HS.elsK 9 rfl)) (row_le (HS.mu 8 rfl)) (row_C rfl (HS.mu 6 rfl) (HS.getN 0 rfl)) (row_le (HS.mu 6 rfl)) (row_C rfl (HS.mu 3 rfl) (HS.elsK 4 rfl)) (row_le (HS.mu 3 rfl)) (row_C rfl (HS.mu 1 rfl) (HS.elsK 2 rfl)) (row_le (HS.mu 1 rfl)) ha1238) ?_
   clear ha1238
   rintro _ w1239 ⟨v1240, bl1241, v1242, bl1243, v1244, bl1245, rfl, hO_, hb⟩
   replace HS := HS.got hb hO_
   exact by (
   dsimp only [List.cons_append, List.nil_append] at HS
   clear hO_
   obtain ⟨I1246, bl1247, HS⟩ := HS.unseal (sz := 1) rfl
   replace HS := HS.freezeN 1 (p := (rF kI t1237.1.f0 I1246)) rfl (fun _ hP_ _ => RepsB.reps hP_)
   dsimp only [List.eraseIdx] at HS
   replace HS := HS.front 1 rfl
   dsimp only [List.eraseIdx] at HS
   obtain ⟨I1248, bl1249, HS⟩ := HS.unseal (sz := 1) rfl
   exact by (
   replace HS := HS.front 3 rfl
   dsimp only [List.eraseIdx] at HS
   obtain ⟨I1250, bl1251, HS⟩ := HS.unseal (sz := 1) rfl
   replace HS := HS.freezeN 1 (p := (rF kI t1237.2.1.f0 I1250)) rfl (fun _ hP_ _ => RepsB.reps hP_)
   dsimp only [List.eraseIdx] at HS
   refine ⟨_, rfl, ?_⟩
   clear hb
   refine mv_ ?_
   exact by (
   refine v_ (Run.extract rfl rfl rfl) ?_
   refine v_ (Run.extract rfl rfl rfl) ?_
   refine v_ (Run.extract rfl rfl rfl) ?_
   refine WL.alloc HS (v := .agg #[sn, sn]) (cs := #[sn, sn]) rfl rfl (by decide) rfl (by kernel_rfl) rfl (fun b1252 w1253 hb1252 HS => ?_)
   refine WL.alloc HS (v := .agg #[sn, vi 0]) (cs := #[sn, vi 0]) rfl rfl (by decide) rfl (by kernel_rfl) rfl (fun b1254 w1255 hb1254 HS => ?_)
   obtain ⟨A1257, c1258, rfl⟩ := row_slice (HS.mu 5 rfl)
   obtain ⟨A1259, c1260, rfl⟩ := row_slice (HS.mu 3 rfl)
   refine WL.storeW HS 1 rfl rfl rfl rfl rfl rfl (oneL rfl) (by kernel_rfl) rfl (fun w1256 HS => ?_)
   exact by (
   dsimp only [List.set] at HS
   obtain ⟨A1262, c1263, rfl⟩ := row_slice (HS.mu 2 rfl)
   refine WL.storeW HS 0 rfl rfl rfl rfl rfl rfl (oneL rfl) (by kernel_rfl) rfl (fun w1261 HS => ?_)
   dsimp only [List.set] at HS
   refine ad_ hK1236 ?_
   clear hK1236
   refine WC.seq fun _ hK1264 => ?_
   refine sr_ fun _ hK1265 => ?_
   exact by (
   refine v_ (ls_ (HS.mu 1 rfl) underlying58 part_all) ?_
   refine v_ (ls_ (HS.mu 18 rfl) underlying58 part_all) ?_
   obtain ⟨t1266, ha1267, H⟩ := bind_some H
   refine cs_ HS func63 (laws_eqStore.runs k (⟨t1237.1.f0, t1237.1.f1⟩ : S58) A1257 c1258 A1259 c1260 (⟨t75.1.f0, t75.1.f1⟩ : S58) A78 c79 A82 c83 t1266 _ (row_C rfl (HS.mu 5 rfl) (HS.getN 1 rfl)) (row_le (HS.mu 5 rfl)) (row_C rfl (HS.mu 3 rfl) (HS.elsK 4 rfl)) (row_le (HS.mu 3 rfl)) (HS.getN 4 rfl) le80 (HS.getN 5 rfl) le84 ha1267) (fun w1268 HS => ?_)
   clear ha1267
   refine nt_ ?_
   refine mv_ ?_
   rcases eti_ H with ⟨c1269, H⟩ | ⟨c1269, H⟩
   · refine off_ (c' := true) (nB (bF c1269)) ?_
     exact by (
     refine WL.know 67 (nB (bF c1269)) ?_
     refine fast_ ?_
     refine via_ hK1265 (wy_ rfl ?_)
     clear hK1265
     refine sr_ fun _ hK2681 => ?_
     refine ad_ hK2681 ?_
     clear hK2681
     obtain rfl := os H
     exact rt1 Try.f14 rfl rfl hR_ ⟨rfl, HS.b⟩ )
   exact by (
   refine on_ (nB c1269) (v_ (ls_ (HS.mu 0 rfl) underlying67 part_all) ?_)
   refine on_ (nB c1269) (v_ (ls_ (HS.mu 17 rfl) underlying67 part_all) ?_)
   refine on_ (nB c1269) ?_
   obtain ⟨t1270, ha1271, H⟩ := bind_some H
   refine cs_ HS func64 (laws_eqTable.runs k (⟨t1237.2.1.f0, t1237.2.1.f1⟩ : S67) A1262 c1263 (⟨t75.2.1.f0, t75.2.1.f1⟩ : S67) A86 c87 t1270 _ (row_C rfl (HS.mu 2 rfl) (HS.getN 0 rfl)) (row_le (HS.mu 2 rfl)) (HS.getN 6 rfl) le88 ha1271) (fun w1272 HS => ?_)
   clear ha1271
   refine on_ (nB c1269) (nt_ ?_)
   refine v_ (Run.pickF rfl rfl (nB c1269) rfl) ?_
   exact by (
   refine mv_ ?_
   rcases eti_ H with ⟨c1273, H⟩ | ⟨c1273, H⟩
   · refine off_ (c' := true) (nB (bF c1273)) ?_
     refine WL.know 73 (nB (bF c1273)) ?_
     refine fast_ ?_
     refine via_ hK1265 (wy_ rfl ?_)
     clear hK1265
     refine sr_ fun _ hK2680 => ?_
     exact by (
     refine ad_ hK2680 ?_
     clear hK2680
     obtain rfl := os H
     exact rt1 Try.f14 rfl rfl hR_ ⟨rfl, HS.b⟩ )
   refine on_ (nB c1273) (mv_ ?_)
   refine on_ (nB c1273) (mv_ ?_)
   refine on_ (nB c1273) (v_ (Run.binB rfl rfl rfl (bin_neqB underlying4)) ?_)
   refine v_ (Run.pickF rfl rfl (nB c1273) rfl) ?_
   exact by (
   refine dn_ hK1265 ?_
   clear hK1265
   rcases eti_ H with ⟨c1274, H⟩ | ⟨c1274, H⟩
   · refine wy_ (qT c1274) (sr_ fun _ hK2679 => ?_)
     refine ad_ hK2679 ?_
     clear hK2679
     obtain rfl := os H
     exact rt1 Try.f14 rfl rfl hR_ ⟨rfl, HS.b⟩
   exact by (
   refine wn_ (qF c1274) (WC.skip (via_ hK1264 (WC.seq fun _ hK1275 => ?_)))
   clear hK1264
   refine WC.seq fun _ hK1276 => ?_
   refine WC.drawS HS [] rfl rfl (fun w1277 HS => ?_)
   have HB := Below.refl w1277.heap.size w1277
   have HSW := HS
   refine dt_ 0 (Below.refl _ _) (fun w_ hw_ => Run.loadS (cs := [(.slice A1200 t1186.f0.length c1201), (.slice A1202 t1186.f1.length c1203)]) rfl rfl underlying58 rfl (by kernel_rfl) (box_part ((HS.below hw_).mu 13 rfl) part_all)) ?_
   refine dt_ 1 (Below.refl _ _) (fun w_ hw_ => Run.loadS (cs := [.slice A0_0 x0.f0.length c0_0, .slice A0_1 x0.f1.length c0_1]) rfl rfl underlying84 rfl (by kernel_rfl) (box_part ((HS.below hw_).mu 29 rfl) part_all)) ?_
   exact by (
   obtain ⟨t1278, ha1279, H⟩ := bind_some H
   refine dc_ 2 (w_none rfl) func60 (laws_toStore.runs k (⟨x0.f0, x0.f1⟩ : S84) A0_0 c0_0 A0_1 c0_1 t1278 _ (HS.getO 0 rfl) hc0_0 (HS.getO 1 rfl) hc0_1 ha1279) ?_
   clear ha1279
   rintro _ w1280 ⟨v1281, bl1282, v1283, bl1284, rfl, hO_, hb⟩
   replace HB := HB.trans (hb.mono HB.size)
   replace HS := HS.got hb hO_
   dsimp only [List.cons_append, List.nil_append] at HS
   clear hO_
   exact by (
   obtain ⟨I1285, bl1286, HS⟩ := HS.unseal (sz := 1) rfl
   replace HS := HS.freezeN 1 (p := (rF kI t1278.f0 I1285)) rfl (fun _ hP_ _ => RepsB.reps hP_)
   dsimp only [List.eraseIdx] at HS
   replace HS := HS.front 1 rfl
   dsimp only [List.eraseIdx] at HS
   obtain ⟨I1287, bl1288, HS⟩ := HS.unseal (sz := 1) rfl
   refine ⟨HB, _, rfl, ?_⟩
   clear hb
   exact by (
   obtain ⟨A1289, c1290, rfl⟩ := row_slice (HS.mu 2 rfl)
   obtain ⟨A1291, c1292, rfl⟩ := row_slice (HS.mu 0 rfl)
   obtain ⟨t1293, ha1294, H⟩ := bind_some H
   refine dcs_ HS HB 3 (w_none rfl) func63 (laws_eqStore.runs k (⟨t1186.f0, t1186.f1⟩ : S58) A1200 c1201 A1202 c1203 t1278 A1289 c1290 A1291 c1292 t1293 _ (row_C rfl (HS.mu 19 rfl) (HS.getN 4 rfl)) (row_le (HS.mu 19 rfl)) (row_C rfl (HS.mu 17 rfl) (HS.elsK 18 rfl)) (row_le (HS.mu 17 rfl)) (row_C rfl (HS.mu 2 rfl) (HS.getN 0 rfl)) (row_le (HS.mu 2 rfl)) (row_C rfl (HS.mu 0 rfl) (HS.elsK 1 rfl)) (row_le (HS.mu 0 rfl)) ha1294) (fun w1295 HS HB => ?_)
   clear ha1294
   refine dp_ 4 (fun _ => Run.not rfl rfl) ?_
   refine dd_ ?_
   clear HB HSW
   exact by (
   refine via_ hK1276 ?_
   clear hK1276
   rcases eti_ H with ⟨c1296, H⟩ | ⟨c1296, H⟩
   · refine wy_ (nB (bF c1296)) (sr_ fun _ hK2678 => ?_)
     refine ad_ hK2678 ?_
     clear hK2678
     obtain rfl := os H
     exact rt1 Try.f14 rfl rfl hR_ ⟨rfl, HS.b⟩
   exact by (
   refine wn_ (nB c1296) (WC.skip (via_ hK1275 (WC.seq fun _ hK1297 => ?_)))
   clear hK1275
   refine WC.seq fun _ hK1298 => ?_
   refine WC.drawS HS [] rfl rfl (fun w1299 HS => ?_)
   have HB := Below.refl w1299.heap.size w1299
   have HSW := HS
   refine dt_ 0 (Below.refl _ _) (fun w_ hw_ => Run.loadS (cs := [(.slice A1215 t1205.f0.length c1216), vi t1205.f1]) rfl rfl underlying67 rfl (by kernel_rfl) (box_part ((HS.below hw_).mu 14 rfl) part_all)) ?_
   refine dt_ 1 (Below.refl _ _) (fun w_ hw_ => Run.loadS (cs := [.slice A1_0 x1.f0.length c1_0, vi x1.f1]) rfl rfl underlying85 rfl (by kernel_rfl) (box_part ((HS.below hw_).mu 31 rfl) part_all)) ?_
   exact by (
   obtain ⟨t1300, ha1301, H⟩ := bind_some H
   refine dc_ 2 (w_none rfl) func61 (laws_toTable.runs k (⟨x1.f0, x1.f1⟩ : S85) A1_0 c1_0 t1300 _ (HS.getO 2 rfl) hc1_0 ha1301) ?_
   clear ha1301
   rintro _ w1302 ⟨v1303, bl1304, rfl, hO_, hb⟩
   replace HB := HB.trans (hb.mono HB.size)
   replace HS := HS.got hb hO_
   dsimp only [List.cons_append, List.nil_append] at HS
   clear hO_
   exact by (
   obtain ⟨I1305, bl1306, HS⟩ := HS.unseal (sz := 1) rfl
   replace HS := HS.freezeN 1 (p := (rF kI t1300.f0 I1305)) rfl (fun _ hP_ _ => RepsB.reps hP_)
   dsimp only [List.eraseIdx] at HS
   refine ⟨HB, _, rfl, ?_⟩
   clear hb
   obtain ⟨A1307, c1308, rfl⟩ := row_slice (HS.mu 0 rfl)
   obtain ⟨t1309, ha1310, H⟩ := bind_some H
   refine dcs_ HS HB 3 (w_none rfl) func64 (laws_eqTable.runs k (⟨t1205.f0, t1205.f1⟩ : S67) A1215 c1216 t1300 A1307 c1308 t1309 _ (row_C rfl (HS.mu 16 rfl) (HS.getN 4 rfl)) (row_le (HS.mu 16 rfl)) (row_C rfl (HS.mu 0 rfl) (HS.getN 0 rfl)) (row_le (HS.mu 0 rfl)) ha1310) (fun w1311 HS HB => ?_)
   exact by (
   clear ha1310
   refine dp_ 4 (fun _ => Run.not rfl rfl) ?_
   refine dd_ ?_
   clear HB HSW
   refine via_ hK1298 ?_
   clear hK1298
   rcases eti_ H with ⟨c1312, H⟩ | ⟨c1312, H⟩
   · refine wy_ (nB (bF c1312)) (sr_ fun _ hK2677 => ?_)
     exact by (
     refine ad_ hK2677 ?_
     clear hK2677
     obtain rfl := os H
     exact rt1 Try.f14 rfl rfl hR_ ⟨rfl, HS.b⟩ )
   refine wn_ (nB c1312) (WC.skip (via_ hK1297 (WC.seq fun _ hK1313 => ?_)))
   clear hK1297
   refine WC.seq fun _ hK1314 => ?_
   refine WC.drawS HS [] rfl rfl (fun w1315 HS => ?_)
   exact by (
   have HB := Below.refl w1315.heap.size w1315
   have HSW := HS
   refine dt_ 0 (Below.refl _ _) (fun w_ hw_ => Run.loadS (cs := [(.slice A1232 t1218.f0.length c1233), (.slice A1234 t1218.f1.length c1235)]) rfl rfl underlying62 rfl (by kernel_rfl) (box_part ((HS.below hw_).mu 10 rfl) part_all)) ?_
   refine dt_ 1 (Below.refl _ _) (fun w_ hw_ => Run.loadS (cs := [.slice A2_0 x2.f0.length c2_0, .slice A2_1 x2.f1.length c2_1]) rfl rfl underlying98 rfl (by kernel_rfl) (box_part ((HS.below hw_).mu 31 rfl) part_all)) ?_
   obtain ⟨t1316, ha1317, H⟩ := bind_some H
   refine dc_ 2 (w_none rfl) func74 (laws_toCell.runs k (⟨x2.f0, x2.f1⟩ : S98) A2_0 c2_0 A2_1 c2_1 t1316 _ (HS.getO 3 rfl) hc2_0 (HS.getO 4 rfl) hc2_1 ha1317) ?_
   clear ha1317
   rintro _ w1318 ⟨v1319, bl1320, v1321, bl1322, rfl, hO_, hb⟩
   exact by (
   replace HB := HB.trans (hb.mono HB.size)
   replace HS := HS.got hb hO_
   dsimp only [List.cons_append, List.nil_append] at HS
   clear hO_
   obtain ⟨I1323, bl1324, HS⟩ := HS.unseal (sz := 1) rfl
   replace HS := HS.front 2 rfl
   dsimp only [List.eraseIdx] at HS
   obtain ⟨I1325, bl1326, HS⟩ := HS.unseal (sz := 1) rfl
   exact by (
   refine ⟨HB, _, rfl, ?_⟩
   clear hb
   obtain ⟨A1327, c1328, rfl⟩ := row_slice (HS.mu 2 rfl)
   obtain ⟨A1329, c1330, rfl⟩ := row_slice (HS.mu 0 rfl)
   obtain ⟨t1331, ha1332, H⟩ := bind_some H
   refine dcs_ HS HB 3 (w_none rfl) func75 (laws_eqCell.runs k (⟨t1218.f0, t1218.f1⟩ : S62) A1232 c1233 A1234 c1235 t1316 A1327 c1328 A1329 c1330 t1331 _ (row_C rfl (HS.mu 17 rfl) (HS.elsK 18 rfl)) (row_le (HS.mu 17 rfl)) (row_C rfl (HS.mu 15 rfl) (HS.elsK 16 rfl)) (row_le (HS.mu 15 rfl)) (row_C rfl (HS.mu 2 rfl) (HS.elsK 3 rfl)) (row_le (HS.mu 2 rfl)) (row_C rfl (HS.mu 0 rfl) (HS.elsK 1 rfl)) (row_le (HS.mu 0 rfl)) ha1332) (fun w1333 HS HB => ?_)
   clear ha1332
   refine dp_ 4 (fun _ => Run.not rfl rfl) ?_
   exact by (
   refine dd_ ?_
   clear HB HSW
   refine via_ hK1314 ?_
   clear hK1314
   rcases eti_ H with ⟨c1334, H⟩ | ⟨c1334, H⟩
   · refine wy_ (nB (bF c1334)) (sr_ fun _ hK2676 => ?_)
     refine ad_ hK2676 ?_
     clear hK2676
     obtain rfl := os H
     exact rt1 Try.f14 rfl rfl hR_ ⟨rfl, HS.b⟩
   exact by (
   refine wn_ (nB c1334) (WC.skip (via_ hK1313 (sr_ fun _ hK1335 => ?_)))
   clear hK1313
   refine ad_ hK1335 ?_
   clear hK1335
   refine sr_ fun _ hK1336 => ?_
   refine v_ (ls_ (HS.mu 21 rfl) underlying58 part_all) ?_
   refine mv_ ?_
   refine ci_ (args := [.agg #[(.slice A1200 t1186.f0.length c1201), (.slice A1202 t1186.f1.length c1203)], vi 1]) func65 ?_
   exact by (
   refine cw_ (n := 14) func65 fun _ hR1337 => ?_
   refine sr_ fun _ hK1338 => ?_
   refine bo_ HS (fun b1339 w1340 hb1339 HS => ?_)
   refine ad_ hK1338 ?_
   clear hK1338
   refine sr_ fun _ hK1341 => ?_
   refine v_ (fa_ underlying58) ?_
   refine v_ (lb_ (HS.mu 0 rfl) underlying22 rfl) ?_
   exact by (
   refine mv_ ?_
   replace HS := HS.elsF (xs := t1186.f0) (inner := I1193) (Dk.int .i64) (fun _ _ _ h_ => ⟨h_, rfl⟩) (fun _ => (HS.getN 5 rfl))
   replace HS := HS.front 26 rfl
   dsimp only [List.eraseIdx] at HS
   replace HS := HS.seal rfl rfl
   obtain ⟨Lv1342, hL1343, HS⟩ := HS.pre2 lf3
   obtain ⟨⟨q1344, q1345⟩, H⟩ := if_some H
   refine c_ func20 (laws_markIntS.leaf A1200 t1186.f0.length c1201 1 Lv1342 _ (HS.preK 0 rfl) q1344 (by rw [hL1343]; exact q1345) (1 + ((n22 t1186.f0) : Int)) (by rw [hL1343]; rfl)) ?_
   exact by (
   rintro _ w1346 ⟨rfl, hm_⟩
   replace HS := HS.marked 0 rfl hm_
   dsimp only [List.set] at HS
   refine ⟨_, rfl, ?_⟩
   clear hm_
   have hn1347 : ¬ (1 + ((n22 t1186.f0) : Int)) < 0 := by omega
   refine ad_ hK1341 ?_
   clear hK1341
   exact by (
   refine sr_ fun _ hK1348 => ?_
   refine v_ (fa_ underlying58) ?_
   refine v_ (lb_ (HS.mu 1 rfl) underlying56 rfl) ?_
   refine mv_ ?_
   replace HS := HS.front 25 rfl
   dsimp only [List.eraseIdx] at HS
   replace HS := HS.front 25 rfl
   dsimp only [List.eraseIdx] at HS
   exact by (
   replace HS := HS.seal rfl rfl
   obtain ⟨Lv1349, hL1350, HS⟩ := HS.pre2 lf71
   obtain ⟨⟨q1351, q1352⟩, H⟩ := if_some H
   refine c_ func128 (laws_markCellSS.leaf A1202 t1186.f1.length c1203 (1 + ((n22 t1186.f0) : Int)) Lv1349 _ (HS.preK 0 rfl) q1351 (by rw [hL1350]; exact q1352) ((1 + ((n22 t1186.f0) : Int)) + ((n56 t1186.f1) : Int)) (by rw [hL1350]; rfl)) ?_
   rintro _ w1353 ⟨rfl, hm_⟩
   replace HS := HS.marked 0 rfl hm_
   dsimp only [List.set] at HS
   refine ⟨_, rfl, ?_⟩
   exact by (
   clear hm_
   have hn1354 : ¬ ((1 + ((n22 t1186.f0) : Int)) + ((n56 t1186.f1) : Int)) < 0 := by omega
   refine ad_ hK1348 ?_
   clear hK1348
   refine sr_ fun _ hK1355 => ?_
   refine mv_ ?_
   refine ad_ hK1355 ?_
   clear hK1355
   exact by (
   refine WC.ret ?_
   refine fin1 Try.f65 rfl rfl hR1337 ⟨_, rfl, ?_⟩
   refine ad_ hK1336 ?_
   clear hK1336
   refine sr_ fun _ hK1356 => ?_
   refine v_ (ls_ (HS.mu 22 rfl) underlying67 part_all) ?_
   refine mv_ ?_
   refine ci_ (args := [.agg #[(.slice A1215 t1205.f0.length c1216), vi t1205.f1], vi ((1 + ((n22 t1186.f0) : Int)) + ((n56 t1186.f1) : Int))]) func66 ?_
   exact by (
   refine cw_ (n := 10) func66 fun _ hR1357 => ?_
   refine sr_ fun _ hK1358 => ?_
   refine bo_ HS (fun b1359 w1360 hb1359 HS => ?_)
   refine ad_ hK1358 ?_
   clear hK1358
   refine sr_ fun _ hK1361 => ?_
   refine v_ (fa_ underlying67) ?_
   refine v_ (lb_ (HS.mu 0 rfl) underlying22 rfl) ?_
   exact by (
   refine mv_ ?_
   replace HS := HS.elsF (xs := t1205.f0) (inner := I1210) (Dk.int .i64) (fun _ _ _ h_ => ⟨h_, rfl⟩) (fun _ => (HS.getN 4 rfl))
   replace HS := HS.front 25 rfl
   dsimp only [List.eraseIdx] at HS
   replace HS := HS.seal rfl rfl
   obtain ⟨Lv1362, hL1363, HS⟩ := HS.pre2 lf3
   obtain ⟨⟨q1364, q1365⟩, H⟩ := if_some H
   refine c_ func20 (laws_markIntS.leaf A1215 t1205.f0.length c1216 ((1 + ((n22 t1186.f0) : Int)) + ((n56 t1186.f1) : Int)) Lv1362 _ (HS.preK 0 rfl) q1364 (by rw [hL1363]; exact q1365) (((1 + ((n22 t1186.f0) : Int)) + ((n56 t1186.f1) : Int)) + ((n22 t1205.f0) : Int)) (by rw [hL1363]; rfl)) ?_
   exact by (
   rintro _ w1366 ⟨rfl, hm_⟩
   replace HS := HS.marked 0 rfl hm_
   dsimp only [List.set] at HS
   refine ⟨_, rfl, ?_⟩
   clear hm_
   have hn1367 : ¬ (((1 + ((n22 t1186.f0) : Int)) + ((n56 t1186.f1) : Int)) + ((n22 t1205.f0) : Int)) < 0 := by omega
   refine ad_ hK1361 ?_
   clear hK1361
   exact by (
   refine sr_ fun _ hK1368 => ?_
   refine mv_ ?_
   refine ad_ hK1368 ?_
   clear hK1368
   refine WC.ret ?_
   refine fin1 Try.f66 rfl rfl hR1357 ⟨_, rfl, ?_⟩
   refine ad_ hK1356 ?_
   clear hK1356
   exact by (
   refine sr_ fun _ hK1369 => ?_
   refine v_ (ls_ (HS.mu 19 rfl) underlying62 part_all) ?_
   refine mv_ ?_
   refine ci_ (args := [.agg #[(.slice A1232 t1218.f0.length c1233), (.slice A1234 t1218.f1.length c1235)], vi (((1 + ((n22 t1186.f0) : Int)) + ((n56 t1186.f1) : Int)) + ((n22 t1205.f0) : Int))]) func76 ?_
   refine cw_ (n := 14) func76 fun _ hR1370 => ?_
   refine sr_ fun _ hK1371 => ?_
   refine bo_ HS (fun b1372 w1373 hb1372 HS => ?_)
   refine ad_ hK1371 ?_
   exact by (
   clear hK1371
   refine sr_ fun _ hK1374 => ?_
   refine v_ (fa_ underlying62) ?_
   refine v_ (lb_ (HS.mu 0 rfl) underlying60 rfl) ?_
   refine mv_ ?_
   replace HS := HS.front 24 rfl
   dsimp only [List.eraseIdx] at HS
   replace HS := HS.front 24 rfl
   exact by (
   dsimp only [List.eraseIdx] at HS
   replace HS := HS.seal rfl rfl
   obtain ⟨Lv1375, hL1376, HS⟩ := HS.pre2 lf133
   obtain ⟨⟨q1377, q1378⟩, H⟩ := if_some H
   refine c_ func129 (laws_markPartSS.leaf A1232 t1218.f0.length c1233 (((1 + ((n22 t1186.f0) : Int)) + ((n56 t1186.f1) : Int)) + ((n22 t1205.f0) : Int)) Lv1375 _ (HS.preK 0 rfl) q1377 (by rw [hL1376]; exact q1378) ((((1 + ((n22 t1186.f0) : Int)) + ((n56 t1186.f1) : Int)) + ((n22 t1205.f0) : Int)) + ((n60 t1218.f0) : Int)) (by rw [hL1376]; rfl)) ?_
   rintro _ w1379 ⟨rfl, hm_⟩
   replace HS := HS.marked 0 rfl hm_
   dsimp only [List.set] at HS
   exact by (
   refine ⟨_, rfl, ?_⟩
   clear hm_
   have hn1380 : ¬ ((((1 + ((n22 t1186.f0) : Int)) + ((n56 t1186.f1) : Int)) + ((n22 t1205.f0) : Int)) + ((n60 t1218.f0) : Int)) < 0 := by omega
   refine ad_ hK1374 ?_
   clear hK1374
   refine sr_ fun _ hK1381 => ?_
   refine v_ (fa_ underlying62) ?_
   refine v_ (lb_ (HS.mu 1 rfl) underlying60 rfl) ?_
   exact by (
   refine mv_ ?_
   replace HS := HS.front 23 rfl
   dsimp only [List.eraseIdx] at HS
   replace HS := HS.front 23 rfl
   dsimp only [List.eraseIdx] at HS
   replace HS := HS.seal rfl rfl
   obtain ⟨Lv1382, hL1383, HS⟩ := HS.pre2 lf133
   obtain ⟨⟨q1384, q1385⟩, H⟩ := if_some H
   exact by (
   refine c_ func129 (laws_markPartSS.leaf A1234 t1218.f1.length c1235 ((((1 + ((n22 t1186.f0) : Int)) + ((n56 t1186.f1) : Int)) + ((n22 t1205.f0) : Int)) + ((n60 t1218.f0) : Int)) Lv1382 _ (HS.preK 0 rfl) q1384 (by rw [hL1383]; exact q1385) (((((1 + ((n22 t1186.f0) : Int)) + ((n56 t1186.f1) : Int)) + ((n22 t1205.f0) : Int)) + ((n60 t1218.f0) : Int)) + ((n60 t1218.f1) : Int)) (by rw [hL1383]; rfl)) ?_
   rintro _ w1386 ⟨rfl, hm_⟩
   replace HS := HS.marked 0 rfl hm_
   dsimp only [List.set] at HS
   refine ⟨_, rfl, ?_⟩
   clear hm_
   have hn1387 : ¬ (((((1 + ((n22 t1186.f0) : Int)) + ((n56 t1186.f1) : Int)) + ((n22 t1205.f0) : Int)) + ((n60 t1218.f0) : Int)) + ((n60 t1218.f1) : Int)) < 0 := by omega
   refine ad_ hK1381 ?_
   exact by (
   clear hK1381
   refine sr_ fun _ hK1388 => ?_
   refine mv_ ?_
   refine ad_ hK1388 ?_
   clear hK1388
   refine WC.ret ?_
   refine fin1 Try.f76 rfl rfl hR1370 ⟨_, rfl, ?_⟩
   refine ad_ hK1369 ?_
   exact by (
   clear hK1369
   refine WC.seq fun _ hK1389 => ?_
   refine sr_ fun _ hK1390 => ?_
   refine mv_ ?_
   refine b_ bin_lss ?_
   refine mv_ ?_
   refine on_ (dF hn1387) (v_ (ls_ (HS.mu 17 rfl) underlying58 part_all) ?_)
   refine on_ (dF hn1387) (v_ (ls_ (HS.mu 26 rfl) underlying58 part_all) ?_)
   exact by (
   refine on_ (dF hn1387) ?_
   obtain ⟨t1391, ha1392, H⟩ := bind_some H
   refine cs_ HS func63 (laws_eqStore.runs k (⟨t1237.1.f0, t1237.1.f1⟩ : S58) A1257 c1258 A1259 c1260 (⟨t75.1.f0, t75.1.f1⟩ : S58) A78 c79 A82 c83 t1391 _ (row_C rfl (HS.mu 21 rfl) (HS.getN 3 rfl)) (row_le (HS.mu 21 rfl)) (row_C rfl (HS.mu 19 rfl) (HS.elsK 20 rfl)) (row_le (HS.mu 19 rfl)) (HS.getN 6 rfl) le80 (HS.getN 7 rfl) le84 ha1392) (fun w1393 HS => ?_)
   clear ha1392
   refine on_ (dF hn1387) (nt_ ?_)
   refine v_ (Run.pickF rfl rfl (dF hn1387) rfl) ?_
   refine mv_ ?_
   rcases eti_ H with ⟨c1394, H⟩ | ⟨c1394, H⟩
   · refine off_ (c' := true) (nB (bF c1394)) ?_
     exact by (
     refine WL.know 110 (nB (bF c1394)) ?_
     refine fast_ ?_
     refine via_ hK1390 (wy_ rfl ?_)
     clear hK1390
     refine sr_ fun _ hK2675 => ?_
     refine ad_ hK2675 ?_
     clear hK2675
     obtain rfl := os H
     exact rt1 Try.f14 rfl rfl hR_ ⟨rfl, HS.b⟩ )
   exact by (
   refine on_ (nB c1394) (v_ (ls_ (HS.mu 16 rfl) underlying67 part_all) ?_)
   refine on_ (nB c1394) (v_ (ls_ (HS.mu 25 rfl) underlying67 part_all) ?_)
   refine on_ (nB c1394) ?_
   obtain ⟨t1395, ha1396, H⟩ := bind_some H
   refine cs_ HS func64 (laws_eqTable.runs k (⟨t1237.2.1.f0, t1237.2.1.f1⟩ : S67) A1262 c1263 (⟨t75.2.1.f0, t75.2.1.f1⟩ : S67) A86 c87 t1395 _ (row_C rfl (HS.mu 18 rfl) (HS.getN 2 rfl)) (row_le (HS.mu 18 rfl)) (HS.getN 8 rfl) le88 ha1396) (fun w1397 HS => ?_)
   clear ha1396
   refine on_ (nB c1394) (nt_ ?_)
   refine v_ (Run.pickF rfl rfl (nB c1394) rfl) ?_
   exact by (
   refine mv_ ?_
   rcases eti_ H with ⟨c1398, H⟩ | ⟨c1398, H⟩
   · refine off_ (c' := true) (nB (bF c1398)) ?_
     refine WL.know 116 (nB (bF c1398)) ?_
     refine fast_ ?_
     refine via_ hK1390 (wy_ rfl ?_)
     clear hK1390
     refine sr_ fun _ hK2674 => ?_
     exact by (
     refine ad_ hK2674 ?_
     clear hK2674
     obtain rfl := os H
     exact rt1 Try.f14 rfl rfl hR_ ⟨rfl, HS.b⟩ )
   refine on_ (nB c1398) (mv_ ?_)
   refine on_ (nB c1398) (mv_ ?_)
   refine on_ (nB c1398) (v_ (Run.binB rfl rfl rfl (bin_neqB underlying4)) ?_)
   refine v_ (Run.pickF rfl rfl (nB c1398) rfl) ?_
   exact by (
   refine dn_ hK1390 (wn_ (qF c1274) (WC.skip (via_ hK1389 (sr_ fun _ hK1399 => ?_))))
   clear hK1390 hK1389
   refine ad_ hK1399 ?_
   clear hK1399
   refine sr_ fun _ hK1400 => ?_
   refine v_ (ls_ (HS.mu 17 rfl) underlying58 part_all) ?_
   refine mv_ ?_
   refine ci_ (args := [.agg #[(.slice A1257 t1237.1.f0.length c1258), (.slice A1259 t1237.1.f1.length c1260)], vi 1]) func65 ?_
   exact by (
   refine cw_ (n := 14) func65 fun _ hR1401 => ?_
   refine sr_ fun _ hK1402 => ?_
   refine bo_ HS (fun b1403 w1404 hb1403 HS => ?_)
   refine ad_ hK1402 ?_
   clear hK1402
   refine sr_ fun _ hK1405 => ?_
   refine v_ (fa_ underlying58) ?_
   refine v_ (lb_ (HS.mu 0 rfl) underlying22 rfl) ?_
   exact by (
   refine mv_ ?_
   replace HS := HS.elsF (xs := t1237.1.f0) (inner := I1246) (Dk.int .i64) (fun _ _ _ h_ => ⟨h_, rfl⟩) (fun _ => (HS.getN 3 rfl))
   replace HS := HS.front 23 rfl
   dsimp only [List.eraseIdx] at HS
   replace HS := HS.seal rfl rfl
   obtain ⟨Lv1406, hL1407, HS⟩ := HS.pre2 lf3
   obtain ⟨⟨q1408, q1409⟩, H⟩ := if_some H
   refine c_ func20 (laws_markIntS.leaf A1257 t1237.1.f0.length c1258 1 Lv1406 _ (HS.preK 0 rfl) q1408 (by rw [hL1407]; exact q1409) (1 + ((n22 t1237.1.f0) : Int)) (by rw [hL1407]; rfl)) ?_
   exact by (
   rintro _ w1410 ⟨rfl, hm_⟩
   replace HS := HS.marked 0 rfl hm_
   dsimp only [List.set] at HS
   refine ⟨_, rfl, ?_⟩
   clear hm_
   have hn1411 : ¬ (1 + ((n22 t1237.1.f0) : Int)) < 0 := by omega
   refine ad_ hK1405 ?_
   clear hK1405
   exact by (
   refine sr_ fun _ hK1412 => ?_
   refine v_ (fa_ underlying58) ?_
   refine v_ (lb_ (HS.mu 1 rfl) underlying56 rfl) ?_
   refine mv_ ?_
   replace HS := HS.front 22 rfl
   dsimp only [List.eraseIdx] at HS
   replace HS := HS.front 22 rfl
   dsimp only [List.eraseIdx] at HS
   exact by (
   replace HS := HS.seal rfl rfl
   obtain ⟨Lv1413, hL1414, HS⟩ := HS.pre2 lf71
   obtain ⟨⟨q1415, q1416⟩, H⟩ := if_some H
   refine c_ func128 (laws_markCellSS.leaf A1259 t1237.1.f1.length c1260 (1 + ((n22 t1237.1.f0) : Int)) Lv1413 _ (HS.preK 0 rfl) q1415 (by rw [hL1414]; exact q1416) ((1 + ((n22 t1237.1.f0) : Int)) + ((n56 t1237.1.f1) : Int)) (by rw [hL1414]; rfl)) ?_
   rintro _ w1417 ⟨rfl, hm_⟩
   replace HS := HS.marked 0 rfl hm_
   dsimp only [List.set] at HS
   refine ⟨_, rfl, ?_⟩
   exact by (
   clear hm_
   have hn1418 : ¬ ((1 + ((n22 t1237.1.f0) : Int)) + ((n56 t1237.1.f1) : Int)) < 0 := by omega
   refine ad_ hK1412 ?_
   clear hK1412
   refine sr_ fun _ hK1419 => ?_
   refine mv_ ?_
   refine ad_ hK1419 ?_
   clear hK1419
   exact by (
   refine WC.ret ?_
   refine fin1 Try.f65 rfl rfl hR1401 ⟨_, rfl, ?_⟩
   refine ad_ hK1400 ?_
   clear hK1400
   refine sr_ fun _ hK1420 => ?_
   refine v_ (ls_ (HS.mu 19 rfl) underlying67 part_all) ?_
   refine mv_ ?_
   refine ci_ (args := [.agg #[(.slice A1262 t1237.2.1.f0.length c1263), vi t1237.2.1.f1], vi ((1 + ((n22 t1237.1.f0) : Int)) + ((n56 t1237.1.f1) : Int))]) func66 ?_
   exact by (
   refine cw_ (n := 10) func66 fun _ hR1421 => ?_
   refine sr_ fun _ hK1422 => ?_
   refine bo_ HS (fun b1423 w1424 hb1423 HS => ?_)
   refine ad_ hK1422 ?_
   clear hK1422
   refine sr_ fun _ hK1425 => ?_
   refine v_ (fa_ underlying67) ?_
   refine v_ (lb_ (HS.mu 0 rfl) underlying22 rfl) ?_
   exact by (
   refine mv_ ?_
   replace HS := HS.elsF (xs := t1237.2.1.f0) (inner := I1250) (Dk.int .i64) (fun _ _ _ h_ => ⟨h_, rfl⟩) (fun _ => (HS.getN 2 rfl))
   replace HS := HS.front 23 rfl
   dsimp only [List.eraseIdx] at HS
   replace HS := HS.seal rfl rfl
   obtain ⟨Lv1426, hL1427, HS⟩ := HS.pre2 lf3
   obtain ⟨⟨q1428, q1429⟩, H⟩ := if_some H
   refine c_ func20 (laws_markIntS.leaf A1262 t1237.2.1.f0.length c1263 ((1 + ((n22 t1237.1.f0) : Int)) + ((n56 t1237.1.f1) : Int)) Lv1426 _ (HS.preK 0 rfl) q1428 (by rw [hL1427]; exact q1429) (((1 + ((n22 t1237.1.f0) : Int)) + ((n56 t1237.1.f1) : Int)) + ((n22 t1237.2.1.f0) : Int)) (by rw [hL1427]; rfl)) ?_
   exact by (
   rintro _ w1430 ⟨rfl, hm_⟩
   replace HS := HS.marked 0 rfl hm_
   dsimp only [List.set] at HS
   refine ⟨_, rfl, ?_⟩
   clear hm_
   have hn1431 : ¬ (((1 + ((n22 t1237.1.f0) : Int)) + ((n56 t1237.1.f1) : Int)) + ((n22 t1237.2.1.f0) : Int)) < 0 := by omega
   refine ad_ hK1425 ?_
   clear hK1425
   exact by (
   refine sr_ fun _ hK1432 => ?_
   refine mv_ ?_
   refine ad_ hK1432 ?_
   clear hK1432
   refine WC.ret ?_
   refine fin1 Try.f66 rfl rfl hR1421 ⟨_, rfl, ?_⟩
   refine ad_ hK1420 ?_
   clear hK1420
   exact by (
   refine sr_ fun _ hK1433 => ?_
   refine ad_ hK1433 ?_
   clear hK1433
   refine sr_ fun _ hK1434 => ?_
   refine v_ (ls_ (HS.mu 22 rfl) underlying58 part_all) ?_
   refine mv_ ?_
   refine ci_ (args := [.agg #[(.slice A1257 t1237.1.f0.length c1258), (.slice A1259 t1237.1.f1.length c1260)], vi 1]) func70 ?_
   refine cw_ (n := 18) func70 fun _ hR1435 => ?_
   exact by (
   refine sr_ fun _ hK1436 => ?_
   refine bo_ HS (fun b1437 w1438 hb1437 HS => ?_)
   refine ad_ hK1436 ?_
   clear hK1436
   refine sr_ fun _ hK1439 => ?_
   refine v_ (fa_ underlying58) ?_
   refine v_ (lb_ (HS.mu 0 rfl) underlying22 rfl) ?_
   refine mv_ ?_
   exact by (
   refine c_ func32 (laws_heldIntS.leaf A1257 t1237.1.f0.length c1258 1 Lv1406 _ (HS.leafK 4 rfl) (HS.leafT 4 rfl) q1408 (by rw [hL1407]; exact q1409) (1 + ((n22 t1237.1.f0) : Int)) (by rw [hL1407]; rfl)) ?_
   rintro _ w1440 ⟨rfl, hm_⟩
   replace HS := HS.below hm_
   refine ⟨_, rfl, ?_⟩
   clear hm_
   have hn1441 : ¬ (1 + ((n22 t1237.1.f0) : Int)) < 0 := by omega
   refine ad_ hK1439 ?_
   clear hK1439
   exact by (
   refine WC.seq fun _ hK1442 => ?_
   refine sr_ fun _ hK1443 => ?_
   refine mv_ ?_
   refine b_ bin_lss ?_
   refine dn_ hK1443 (wn_ (dF hn1441) (WC.skip (via_ hK1442 (sr_ fun _ hK1444 => ?_))))
   clear hK1443 hK1442
   refine v_ (fa_ underlying58) ?_
   refine v_ (lb_ (HS.mu 0 rfl) underlying56 rfl) ?_
   exact by (
   refine mv_ ?_
   refine c_ func131 (laws_heldCellSS.leaf A1259 t1237.1.f1.length c1260 (1 + ((n22 t1237.1.f0) : Int)) Lv1413 _ (HS.leafK 3 rfl) (HS.leafT 3 rfl) q1415 (by rw [hL1414]; exact q1416) ((1 + ((n22 t1237.1.f0) : Int)) + ((n56 t1237.1.f1) : Int)) (by rw [hL1414]; rfl)) ?_
   rintro _ w1445 ⟨rfl, hm_⟩
   replace HS := HS.below hm_
   refine ⟨_, rfl, ?_⟩
   clear hm_
   have hn1446 : ¬ ((1 + ((n22 t1237.1.f0) : Int)) + ((n56 t1237.1.f1) : Int)) < 0 := by omega
   refine ad_ hK1444 ?_
   exact by (
   clear hK1444
   refine WC.seq fun _ hK1447 => ?_
   refine sr_ fun _ hK1448 => ?_
   refine mv_ ?_
   refine b_ bin_lss ?_
   refine dn_ hK1448 (wn_ (dF hn1446) (WC.skip (via_ hK1447 (sr_ fun _ hK1449 => ?_))))
   clear hK1448 hK1447
   refine mv_ ?_
   exact by (
   refine ad_ hK1449 ?_
   clear hK1449
   refine WC.ret ?_
   refine fin1 Try.f70 rfl rfl hR1435 ⟨_, rfl, ?_⟩
   refine ad_ hK1434 ?_
   clear hK1434
   refine WC.seq fun _ hK1450 => ?_
   refine sr_ fun _ hK1451 => ?_
   exact by (
   refine mv_ ?_
   refine b_ bin_lss ?_
   refine dn_ hK1451 (wn_ (dF hn1446) (WC.skip (via_ hK1450 (sr_ fun _ hK1452 => ?_))))
   clear hK1451 hK1450
   refine v_ (ls_ (HS.mu 22 rfl) underlying67 part_all) ?_
   refine mv_ ?_
   refine ci_ (args := [.agg #[(.slice A1262 t1237.2.1.f0.length c1263), vi t1237.2.1.f1], vi ((1 + ((n22 t1237.1.f0) : Int)) + ((n56 t1237.1.f1) : Int))]) func72 ?_
   refine cw_ (n := 12) func72 fun _ hR1453 => ?_
   exact by (
   refine sr_ fun _ hK1454 => ?_
   refine bo_ HS (fun b1455 w1456 hb1455 HS => ?_)
   refine ad_ hK1454 ?_
   clear hK1454
   refine sr_ fun _ hK1457 => ?_
   refine v_ (fa_ underlying67) ?_
   refine v_ (lb_ (HS.mu 0 rfl) underlying22 rfl) ?_
   refine mv_ ?_
   exact by (
   refine c_ func32 (laws_heldIntS.leaf A1262 t1237.2.1.f0.length c1263 ((1 + ((n22 t1237.1.f0) : Int)) + ((n56 t1237.1.f1) : Int)) Lv1426 _ (HS.leafK 2 rfl) (HS.leafT 2 rfl) q1428 (by rw [hL1427]; exact q1429) (((1 + ((n22 t1237.1.f0) : Int)) + ((n56 t1237.1.f1) : Int)) + ((n22 t1237.2.1.f0) : Int)) (by rw [hL1427]; rfl)) ?_
   rintro _ w1458 ⟨rfl, hm_⟩
   replace HS := HS.below hm_
   refine ⟨_, rfl, ?_⟩
   clear hm_
   have hn1459 : ¬ (((1 + ((n22 t1237.1.f0) : Int)) + ((n56 t1237.1.f1) : Int)) + ((n22 t1237.2.1.f0) : Int)) < 0 := by omega
   refine ad_ hK1457 ?_
   clear hK1457
   exact by (
   refine WC.seq fun _ hK1460 => ?_
   refine sr_ fun _ hK1461 => ?_
   refine mv_ ?_
   refine b_ bin_lss ?_
   refine dn_ hK1461 (wn_ (dF hn1459) (WC.skip (via_ hK1460 (sr_ fun _ hK1462 => ?_))))
   clear hK1461 hK1460
   refine mv_ ?_
   refine ad_ hK1462 ?_
   exact by (
   clear hK1462
   refine WC.ret ?_
   refine fin1 Try.f72 rfl rfl hR1453 ⟨_, rfl, ?_⟩
   refine ad_ hK1452 ?_
   clear hK1452
   refine WC.seq fun _ hK1463 => ?_
   refine sr_ fun _ hK1464 => ?_
   refine mv_ ?_
   exact by (
   refine b_ bin_lss ?_
   refine dn_ hK1464 (wn_ (dF hn1459) (WC.skip (via_ hK1463 (WC.seq fun _ hK1465 => ?_))))
   clear hK1464 hK1463
   refine sr_ fun _ hK1466 => ?_
   refine mv_ ?_
   refine mv_ ?_
   refine b_ bin_neq ?_
   refine dn_ hK1466 (wn_ (qF rfl) (WC.skip (via_ hK1465 (WC.seq fun _ hK1467 => ?_))))
   exact by (
   clear hK1466 hK1465
   refine WC.drawW HS [boxM b6 #[.slice A2_0 x2.f0.length c2_0, .slice A2_1 x2.f1.length c2_1] 98, boxM b4 #[.slice A1_0 x1.f0.length c1_0, vi x1.f1] 85, boxM b2 #[.slice A0_0 x0.f0.length c0_0, .slice A0_1 x0.f1.length c0_1] 84] (fun _ HS => ⟨(HS.mu 38 rfl), (HS.mu 39 rfl), (HS.mu 40 rfl), trivial⟩) [] rfl rfl (fun w1468 HS => ?_)
   refine dt_ 0 ⟨HS.nowO, HS.nowN, ⟨(HS.mu 38 rfl), (HS.mu 39 rfl), (HS.mu 40 rfl), trivial⟩⟩ (fun w_ hw_ => Run.loadS (cs := [.slice A0_0 x0.f0.length c0_0, .slice A0_1 x0.f1.length c0_1]) rfl rfl underlying84 rfl (by kernel_rfl) (box_part hw_.2.2.2.2.1 part_all)) ?_
   refine dt_ 2 ⟨HS.nowO, HS.nowN, ⟨(HS.mu 38 rfl), (HS.mu 39 rfl), (HS.mu 40 rfl), trivial⟩⟩ (fun w_ hw_ => Run.loadS (cs := [.slice A1_0 x1.f0.length c1_0, vi x1.f1]) rfl rfl underlying85 rfl (by kernel_rfl) (box_part hw_.2.2.2.1 part_all)) ?_
   refine dt_ 4 ⟨HS.nowO, HS.nowN, ⟨(HS.mu 38 rfl), (HS.mu 39 rfl), (HS.mu 40 rfl), trivial⟩⟩ (fun w_ hw_ => Run.loadS (cs := [.slice A2_0 x2.f0.length c2_0, .slice A2_1 x2.f1.length c2_1]) rfl rfl underlying98 rfl (by kernel_rfl) (box_part hw_.2.2.1 part_all)) ?_
   refine joinWD (fun E_ W_ => ∃ (b1524 : Nat) (b1526 : Nat) (A1499 : Option Addr) (t1470 : S58) (c1500 : Nat) (A1501 : Option Addr) (c1502 : Nat) (A1503 : Option Addr) (t1481 : S67) (c1504 : Nat) (A1505 : Option Addr) (t1488 : S62) (c1506 : Nat) (A1507 : Option Addr) (c1508 : Nat) (v1512 : Value) (v1514 : Value) (v1516 : Value) (t1509 : S58 × S67 × Bool) (I1522 : List Value) (I1520 : List Value) (bl1521 : List Nat) (I1518 : List Value) (I1497 : List Value) (bl1498 : List Nat) (I1495 : List Value) (bl1496 : List Nat) (I1486 : List Value) (I1479 : List Value) (bl1480 : List Nat) (I1477 : List Value), E_ = [(0, .agg #[.slice A0_0 x0.f0.length c0_0, .slice A0_1 x0.f1.length c0_1]), (1, .agg #[.slice A1_0 x1.f0.length c1_0, vi x1.f1]), (2, .agg #[.slice A2_0 x2.f0.length c2_0, .slice A2_1 x2.f1.length c2_1]), (3, .pointer (some ⟨b2, 0, none⟩)), (4, .pointer (some ⟨b4, 0, none⟩)), (5, .pointer (some ⟨b6, 0, none⟩)), (6, .bool false), (7, vi t26), (8, .pointer (some ⟨b90, 0, none⟩)), (9, .pointer (some ⟨b92, 0, none⟩)), (10, .bool t75.2.2), (11, .pointer (some ⟨b1197, 0, none⟩)), (12, .pointer (some ⟨b1212, 0, none⟩)), (13, .pointer (some ⟨b1229, 0, none⟩)), (14, .pointer (some ⟨b1252, 0, none⟩)), (15, .pointer (some ⟨b1254, 0, none⟩)), (16, .bool t1237.2.2), (17, vi (((((1 + ((n22 t1186.f0) : Int)) + ((n56 t1186.f1) : Int)) + ((n22 t1205.f0) : Int)) + ((n60 t1218.f0) : Int)) + ((n60 t1218.f1) : Int))), (18, vi (((1 + ((n22 t1237.1.f0) : Int)) + ((n56 t1237.1.f1) : Int)) + ((n22 t1237.2.1.f0) : Int))), (19, vi (((1 + ((n22 t1237.1.f0) : Int)) + ((n56 t1237.1.f1) : Int)) + ((n22 t1237.2.1.f0) : Int))), (20, .pointer (some ⟨b1524, 0, none⟩)), (21, .pointer (some ⟨b1526, 0, none⟩)), (23, .agg #[.slice A0_0 x0.f0.length c0_0, .slice A0_1 x0.f1.length c0_1]), (24, vi 1048576), (25, vi t10), (26, vi t10), (27, .bool (decide (t10 < 0))), (28, .agg #[.slice A1_0 x1.f0.length c1_0, vi x1.f1]), (29, vi t10), (30, vi t18), (31, vi t18), (32, .bool (decide (t18 < 0))), (33, .agg #[.slice A2_0 x2.f0.length c2_0, .slice A2_1 x2.f1.length c2_1]), (34, vi t18), (35, vi t26), (36, vi t26), (37, .bool (decide (t26 < 0))), (39, .agg #[.slice A0_0 x0.f0.length c0_0, .slice A0_1 x0.f1.length c0_1]), (40, .agg #[(.slice A65 t36.f0.length c66), (.slice A67 t36.f1.length c68)]), (41, .agg #[.slice A1_0 x1.f0.length c1_0, vi x1.f1]), (42, .agg #[(.slice A69 t47.f0.length c70), vi t47.f1]), (43, .agg #[.slice A2_0 x2.f0.length c2_0, .slice A2_1 x2.f1.length c2_1]), (44, .agg #[(.slice A71 t54.f0.length c72), (.slice A73 t54.f1.length c74)]), (46, .agg #[.slice A78 t75.1.f0.length c79, .slice A82 t75.1.f1.length c83]), (47, .agg #[.slice A86 t75.2.1.f0.length c87, vi t75.2.1.f1]), (48, .bool t75.2.2), (49, .agg #[.slice A0_0 x0.f0.length c0_0, .slice A0_1 x0.f1.length c0_1]), (50, .agg #[(.slice A1200 t1186.f0.length c1201), (.slice A1202 t1186.f1.length c1203)]), (51, .agg #[.slice A1_0 x1.f0.length c1_0, vi x1.f1]), (52, .agg #[(.slice A1215 t1205.f0.length c1216), vi t1205.f1]), (53, .agg #[.slice A2_0 x2.f0.length c2_0, .slice A2_1 x2.f1.length c2_1]), (54, .agg #[(.slice A1232 t1218.f0.length c1233), (.slice A1234 t1218.f1.length c1235)]), (56, .agg #[(.slice A1200 t1186.f0.length c1201), (.slice A1202 t1186.f1.length c1203)]), (57, .agg #[(.slice A1215 t1205.f0.length c1216), vi t1205.f1]), (58, .agg #[(.slice A1232 t1218.f0.length c1233), (.slice A1234 t1218.f1.length c1235)]), (60, .agg #[(.slice A1257 t1237.1.f0.length c1258), (.slice A1259 t1237.1.f1.length c1260)]), (61, .agg #[(.slice A1262 t1237.2.1.f0.length c1263), vi t1237.2.1.f1]), (62, .bool t1237.2.2), (63, .agg #[(.slice A1257 t1237.1.f0.length c1258), (.slice A1259 t1237.1.f1.length c1260)]), (64, .agg #[.slice A78 t75.1.f0.length c79, .slice A82 t75.1.f1.length c83]), (65, .bool t1266), (66, .bool (!t1266)), (67, .bool (!t1266)), (68, .agg #[(.slice A1262 t1237.2.1.f0.length c1263), vi t1237.2.1.f1]), (69, .agg #[.slice A86 t75.2.1.f0.length c87, vi t75.2.1.f1]), (70, .bool t1270), (71, .bool (!t1270)), (72, .bool (!t1270)), (73, .bool (!t1270)), (74, .bool t1237.2.2), (75, .bool t75.2.2), (76, .bool (t1237.2.2 != t75.2.2)), (77, .bool (t1237.2.2 != t75.2.2)), (78, .agg #[(.slice A1200 t1186.f0.length c1201), (.slice A1202 t1186.f1.length c1203)]), (79, .agg #[.slice A0_0 x0.f0.length c0_0, .slice A0_1 x0.f1.length c0_1]), (80, .agg #[(.slice A1289 t1278.f0.length c1290), (.slice A1291 t1278.f1.length c1292)]), (81, .bool t1293), (82, .bool (!t1293)), (83, .agg #[(.slice A1215 t1205.f0.length c1216), vi t1205.f1]), (84, .agg #[.slice A1_0 x1.f0.length c1_0, vi x1.f1]), (85, .agg #[(.slice A1307 t1300.f0.length c1308), vi t1300.f1]), (86, .bool t1309), (87, .bool (!t1309)), (88, .agg #[(.slice A1232 t1218.f0.length c1233), (.slice A1234 t1218.f1.length c1235)]), (89, .agg #[.slice A2_0 x2.f0.length c2_0, .slice A2_1 x2.f1.length c2_1]), (90, .agg #[(.slice A1327 t1316.f0.length c1328), (.slice A1329 t1316.f1.length c1330)]), (91, .bool t1331), (92, .bool (!t1331)), (93, .agg #[(.slice A1200 t1186.f0.length c1201), (.slice A1202 t1186.f1.length c1203)]), (94, vi 1), (95, vi ((1 + ((n22 t1186.f0) : Int)) + ((n56 t1186.f1) : Int))), (96, .agg #[(.slice A1215 t1205.f0.length c1216), vi t1205.f1]), (97, vi ((1 + ((n22 t1186.f0) : Int)) + ((n56 t1186.f1) : Int))), (98, vi (((1 + ((n22 t1186.f0) : Int)) + ((n56 t1186.f1) : Int)) + ((n22 t1205.f0) : Int))), (99, .agg #[(.slice A1232 t1218.f0.length c1233), (.slice A1234 t1218.f1.length c1235)]), (100, vi (((1 + ((n22 t1186.f0) : Int)) + ((n56 t1186.f1) : Int)) + ((n22 t1205.f0) : Int))), (101, vi (((((1 + ((n22 t1186.f0) : Int)) + ((n56 t1186.f1) : Int)) + ((n22 t1205.f0) : Int)) + ((n60 t1218.f0) : Int)) + ((n60 t1218.f1) : Int))), (102, vi (((((1 + ((n22 t1186.f0) : Int)) + ((n56 t1186.f1) : Int)) + ((n22 t1205.f0) : Int)) + ((n60 t1218.f0) : Int)) + ((n60 t1218.f1) : Int))), (103, .bool (decide ((((((1 + ((n22 t1186.f0) : Int)) + ((n56 t1186.f1) : Int)) + ((n22 t1205.f0) : Int)) + ((n60 t1218.f0) : Int)) + ((n60 t1218.f1) : Int)) < 0))), (104, .bool (decide ((((((1 + ((n22 t1186.f0) : Int)) + ((n56 t1186.f1) : Int)) + ((n22 t1205.f0) : Int)) + ((n60 t1218.f0) : Int)) + ((n60 t1218.f1) : Int)) < 0))), (105, .agg #[(.slice A1257 t1237.1.f0.length c1258), (.slice A1259 t1237.1.f1.length c1260)]), (106, .agg #[.slice A78 t75.1.f0.length c79, .slice A82 t75.1.f1.length c83]), (107, .bool t1391), (108, .bool (!t1391)), (109, .bool (!t1391)), (110, .bool (!t1391)), (111, .agg #[(.slice A1262 t1237.2.1.f0.length c1263), vi t1237.2.1.f1]), (112, .agg #[.slice A86 t75.2.1.f0.length c87, vi t75.2.1.f1]), (113, .bool t1395), (114, .bool (!t1395)), (115, .bool (!t1395)), (116, .bool (!t1395)), (117, .bool t1237.2.2), (118, .bool t75.2.2), (119, .bool (t1237.2.2 != t75.2.2)), (120, .bool (t1237.2.2 != t75.2.2)), (121, .agg #[(.slice A1257 t1237.1.f0.length c1258), (.slice A1259 t1237.1.f1.length c1260)]), (122, vi 1), (123, vi ((1 + ((n22 t1237.1.f0) : Int)) + ((n56 t1237.1.f1) : Int))), (124, .agg #[(.slice A1262 t1237.2.1.f0.length c1263), vi t1237.2.1.f1]), (125, vi ((1 + ((n22 t1237.1.f0) : Int)) + ((n56 t1237.1.f1) : Int))), (126, vi (((1 + ((n22 t1237.1.f0) : Int)) + ((n56 t1237.1.f1) : Int)) + ((n22 t1237.2.1.f0) : Int))), (127, .agg #[(.slice A1257 t1237.1.f0.length c1258), (.slice A1259 t1237.1.f1.length c1260)]), (128, vi 1), (129, vi ((1 + ((n22 t1237.1.f0) : Int)) + ((n56 t1237.1.f1) : Int))), (130, vi ((1 + ((n22 t1237.1.f0) : Int)) + ((n56 t1237.1.f1) : Int))), (131, .bool (decide (((1 + ((n22 t1237.1.f0) : Int)) + ((n56 t1237.1.f1) : Int)) < 0))), (132, .agg #[(.slice A1262 t1237.2.1.f0.length c1263), vi t1237.2.1.f1]), (133, vi ((1 + ((n22 t1237.1.f0) : Int)) + ((n56 t1237.1.f1) : Int))), (134, vi (((1 + ((n22 t1237.1.f0) : Int)) + ((n56 t1237.1.f1) : Int)) + ((n22 t1237.2.1.f0) : Int))), (135, vi (((1 + ((n22 t1237.1.f0) : Int)) + ((n56 t1237.1.f1) : Int)) + ((n22 t1237.2.1.f0) : Int))), (136, .bool (decide ((((1 + ((n22 t1237.1.f0) : Int)) + ((n56 t1237.1.f1) : Int)) + ((n22 t1237.2.1.f0) : Int)) < 0))), (137, vi (((1 + ((n22 t1237.1.f0) : Int)) + ((n56 t1237.1.f1) : Int)) + ((n22 t1237.2.1.f0) : Int))), (138, vi (((1 + ((n22 t1237.1.f0) : Int)) + ((n56 t1237.1.f1) : Int)) + ((n22 t1237.2.1.f0) : Int))), (139, .bool ((((1 + ((n22 t1237.1.f0) : Int)) + ((n56 t1237.1.f1) : Int)) + ((n22 t1237.2.1.f0) : Int)) != (((1 + ((n22 t1237.1.f0) : Int)) + ((n56 t1237.1.f1) : Int)) + ((n22 t1237.2.1.f0) : Int)))), (141, .agg #[.slice A0_0 x0.f0.length c0_0, .slice A0_1 x0.f1.length c0_1]), (142, .agg #[(.slice A1499 t1470.f0.length c1500), (.slice A1501 t1470.f1.length c1502)]), (143, .agg #[.slice A1_0 x1.f0.length c1_0, vi x1.f1]), (144, .agg #[(.slice A1503 t1481.f0.length c1504), vi t1481.f1]), (145, .agg #[.slice A2_0 x2.f0.length c2_0, .slice A2_1 x2.f1.length c2_1]), (146, .agg #[(.slice A1505 t1488.f0.length c1506), (.slice A1507 t1488.f1.length c1508)]), (148, .agg #[v1512, v1514]), (149, .agg #[v1516, vi t1509.2.1.f1]), (150, .bool t1509.2.2)] ∧ ((laws_eqStore.g k (⟨t1509.1.f0, t1509.1.f1⟩ : S58) (⟨t75.1.f0, t75.1.f1⟩ : S58)).bind fun t2627 => (if t2627 = true then ((laws_eqTable.g k (⟨t1509.2.1.f0, t1509.2.1.f1⟩ : S67) (⟨t75.2.1.f0, t75.2.1.f1⟩ : S67)).bind fun t2631 => (if t2631 = true then (if t1509.2.2 = t75.2.2 then (some true) else (some false)) else (some false))) else (some false))) = some r ∧ St (fun _ => True) w W_ [boxM b1526 #[sn, vi 0] 67, boxM b1524 #[sn, sn] 58, rowM w.heap.size 3 1 v1516 t1509.2.1.f0.length I1522, rowM w.heap.size 71 1 v1514 t1509.1.f1.length I1520, elsM (Dk.slice 62 dq62) t1509.1.f1 I1520 bl1521, rowM w.heap.size 3 1 v1512 t1509.1.f0.length I1518, rowM w.heap.size 133 1 (.slice A1507 t1488.f1.length c1508) t1488.f1.length I1497, elsM (Dk.slice 149 dq149) t1488.f1 I1497 bl1498, rowM w.heap.size 133 1 (.slice A1505 t1488.f0.length c1506) t1488.f0.length I1495, elsM (Dk.slice 149 dq149) t1488.f0 I1495 bl1496, rowM w.heap.size 3 1 (.slice A1503 t1481.f0.length c1504) t1481.f0.length I1486, rowM w.heap.size 71 1 (.slice A1501 t1470.f1.length c1502) t1470.f1.length I1479, elsM (Dk.slice 62 dq62) t1470.f1 I1479 bl1480, rowM w.heap.size 3 1 (.slice A1499 t1470.f0.length c1500) t1470.f0.length I1477, boxM b1455 #[(.slice A1262 t1237.2.1.f0.length c1263), vi t1237.2.1.f1] 67, boxM b1437 #[(.slice A1257 t1237.1.f0.length c1258), (.slice A1259 t1237.1.f1.length c1260)] 58, leafM sh3 A1262 t1237.2.1.f0.length Lv1426 ((1 + ((n22 t1237.1.f0) : Int)) + ((n56 t1237.1.f1) : Int)) (((.slice A1262 t1237.2.1.f0.length c1263) : Value).ownBlock.toList ++ []), boxM b1423 #[(.slice A1262 t1237.2.1.f0.length c1263), vi t1237.2.1.f1] 67, leafM sh71 A1259 t1237.1.f1.length Lv1413 (1 + ((n22 t1237.1.f0) : Int)) (((.slice A1259 t1237.1.f1.length c1260) : Value).ownBlock.toList ++ bl1249), leafM sh3 A1257 t1237.1.f0.length Lv1406 1 (((.slice A1257 t1237.1.f0.length c1258) : Value).ownBlock.toList ++ []), boxM b1403 #[(.slice A1257 t1237.1.f0.length c1258), (.slice A1259 t1237.1.f1.length c1260)] 58, leafM sh133 A1234 t1218.f1.length Lv1382 ((((1 + ((n22 t1186.f0) : Int)) + ((n56 t1186.f1) : Int)) + ((n22 t1205.f0) : Int)) + ((n60 t1218.f0) : Int)) (((.slice A1234 t1218.f1.length c1235) : Value).ownBlock.toList ++ bl1228), leafM sh133 A1232 t1218.f0.length Lv1375 (((1 + ((n22 t1186.f0) : Int)) + ((n56 t1186.f1) : Int)) + ((n22 t1205.f0) : Int)) (((.slice A1232 t1218.f0.length c1233) : Value).ownBlock.toList ++ bl1226), boxM b1372 #[(.slice A1232 t1218.f0.length c1233), (.slice A1234 t1218.f1.length c1235)] 62, leafM sh3 A1215 t1205.f0.length Lv1362 ((1 + ((n22 t1186.f0) : Int)) + ((n56 t1186.f1) : Int)) (((.slice A1215 t1205.f0.length c1216) : Value).ownBlock.toList ++ []), boxM b1359 #[(.slice A1215 t1205.f0.length c1216), vi t1205.f1] 67, leafM sh71 A1202 t1186.f1.length Lv1349 (1 + ((n22 t1186.f0) : Int)) (((.slice A1202 t1186.f1.length c1203) : Value).ownBlock.toList ++ bl1196), leafM sh3 A1200 t1186.f0.length Lv1342 1 (((.slice A1200 t1186.f0.length c1201) : Value).ownBlock.toList ++ []), boxM b1339 #[(.slice A1200 t1186.f0.length c1201), (.slice A1202 t1186.f1.length c1203)] 58, rowM w.heap.size 133 1 (.slice A1329 t1316.f1.length c1330) t1316.f1.length I1325, elsM (Dk.slice 149 dq149) t1316.f1 I1325 bl1326, rowM w.heap.size 133 1 (.slice A1327 t1316.f0.length c1328) t1316.f0.length I1323, elsM (Dk.slice 149 dq149) t1316.f0 I1323 bl1324, rowM w.heap.size 3 1 (.slice A1307 t1300.f0.length c1308) t1300.f0.length I1305, rowM w.heap.size 71 1 (.slice A1291 t1278.f1.length c1292) t1278.f1.length I1287, elsM (Dk.slice 62 dq62) t1278.f1 I1287 bl1288, rowM w.heap.size 3 1 (.slice A1289 t1278.f0.length c1290) t1278.f0.length I1285, boxM b1254 #[(.slice A1262 t1237.2.1.f0.length c1263), vi t1237.2.1.f1] 67, boxM b1252 #[(.slice A1257 t1237.1.f0.length c1258), (.slice A1259 t1237.1.f1.length c1260)] 58, boxM b1229 #[(.slice A1232 t1218.f0.length c1233), (.slice A1234 t1218.f1.length c1235)] 62, boxM b1212 #[(.slice A1215 t1205.f0.length c1216), vi t1205.f1] 67, boxM b1197 #[(.slice A1200 t1186.f0.length c1201), (.slice A1202 t1186.f1.length c1203)] 58, boxM b92 #[.slice A86 t75.2.1.f0.length c87, vi t75.2.1.f1] 67, boxM b90 #[.slice A78 t75.1.f0.length c79, .slice A82 t75.1.f1.length c83] 58, rowM w.heap.size 133 1 (.slice A73 t54.f1.length c74) t54.f1.length I63, elsM (Dk.slice 149 dq149) t54.f1 I63 bl64, rowM w.heap.size 133 1 (.slice A71 t54.f0.length c72) t54.f0.length I61, elsM (Dk.slice 149 dq149) t54.f0 I61 bl62, rowM w.heap.size 3 1 (.slice A69 t47.f0.length c70) t47.f0.length I52, rowM w.heap.size 71 1 (.slice A67 t36.f1.length c68) t36.f1.length I45, elsM (Dk.slice 62 dq62) t36.f1 I45 bl46, rowM w.heap.size 3 1 (.slice A65 t36.f0.length c66) t36.f0.length I43, boxM b6 #[.slice A2_0 x2.f0.length c2_0, .slice A2_1 x2.f1.length c2_1] 98, boxM b4 #[.slice A1_0 x1.f0.length c1_0, vi x1.f1] 85, boxM b2 #[.slice A0_0 x0.f0.length c0_0, .slice A0_1 x0.f1.length c0_1] 84] [(cF kI A0_0 x0.f0), (cF kS98 A0_1 x0.f1), (cF kI A1_0 x1.f0), (cF kS164 A2_0 x2.f0), (cF kS164 A2_1 x2.f1)] [(rF kI t1509.2.1.f0 I1522), (rF kI t1509.1.f0 I1518), (rF kI t1481.f0 I1486), (rF kI t1470.f0 I1477), (rF kI t1300.f0 I1305), (rF kI t1278.f0 I1285), (rF kI t1237.2.1.f0 I1250), (rF kI t1237.1.f0 I1246), (rF kI t1205.f0 I1210), (rF kI t1186.f0 I1193), (cF kI A78 t75.1.f0), (cF kS62 A82 t75.1.f1), (cF kI A86 t75.2.1.f0), (rF kI t47.f0 I52), (rF kI t36.f0 I43)]) [1, 3, 5, 6, 7, 8, 9, 10, 11, 12] 3 ?_ (fun X1469 => ?_)
   · rintro E_ w2616 ⟨b1524, b1526, A1499, t1470, c1500, A1501, c1502, A1503, t1481, c1504, A1505, t1488, c1506, A1507, c1508, v1512, v1514, v1516, t1509, I1522, I1520, bl1521, I1518, I1497, bl1498, I1495, bl1496, I1486, I1479, bl1480, I1477, rfl, H, HS⟩
     obtain ⟨A2618, c2619, rfl⟩ := row_slice (HS.mu 5 rfl)
     exact by (
     obtain ⟨A2620, c2621, rfl⟩ := row_slice (HS.mu 3 rfl)
     refine WD.storeS 13 HS 1 rfl rfl rfl rfl (oneL rfl) (by kernel_rfl) (ble_ rfl) (cs' := #[(.slice A2618 t1509.1.f0.length c2619), (.slice A2620 t1509.1.f1.length c2621)]) (by kernel_rfl) (fun w2617 HS => ?_)
     dsimp only [List.set] at HS
     refine ⟨⟨HS.nowO, HS.nowN.2.2.2.2, ⟨(HS.mu 52 rfl), (HS.mu 53 rfl), (HS.mu 54 rfl), trivial⟩⟩, ?_⟩
     obtain ⟨A2623, c2624, rfl⟩ := row_slice (HS.mu 2 rfl)
     refine WD.storeS 14 HS 0 rfl rfl rfl rfl (oneL rfl) (by kernel_rfl) (ble_ rfl) (cs' := #[(.slice A2623 t1509.2.1.f0.length c2624), vi t1509.2.1.f1]) (by kernel_rfl) (fun w2622 HS => ?_)
     dsimp only [List.set] at HS
     refine ⟨⟨HS.nowO, HS.nowN.2.2.2.2, ⟨(HS.mu 52 rfl), (HS.mu 53 rfl), (HS.mu 54 rfl), trivial⟩⟩, ?_⟩
     exact by (
     refine dp_ 15 (fun _ => Run.assign rfl rfl) ?_
     refine dd_ (via_ hK1467 (WC.seq fun _ hK2625 => ?_))
     clear hK1467
     refine sr_ fun _ hK2626 => ?_
     refine v_ (ls_ (HS.mu 1 rfl) underlying58 part_all) ?_
     refine v_ (ls_ (HS.mu 43 rfl) underlying58 part_all) ?_
     obtain ⟨t2627, ha2628, H⟩ := bind_some H
     refine cs_ HS func63 (laws_eqStore.runs k (⟨t1509.1.f0, t1509.1.f1⟩ : S58) A2618 c2619 A2620 c2621 (⟨t75.1.f0, t75.1.f1⟩ : S58) A78 c79 A82 c83 t2627 _ (row_C rfl (HS.mu 5 rfl) (HS.getN 1 rfl)) (row_le (HS.mu 5 rfl)) (row_C rfl (HS.mu 3 rfl) (HS.elsK 4 rfl)) (row_le (HS.mu 3 rfl)) (HS.getN 10 rfl) le80 (HS.getN 11 rfl) le84 ha2628) (fun w2629 HS => ?_)
     exact by (
     clear ha2628
     refine nt_ ?_
     refine mv_ ?_
     rcases eti_ H with ⟨c2630, H⟩ | ⟨c2630, H⟩
     · refine off_ (c' := true) (nB (bF c2630)) ?_
       refine WL.know 155 (nB (bF c2630)) ?_
       refine fast_ ?_
       refine via_ hK2626 (wy_ rfl ?_)
       exact by (
       clear hK2626
       refine sr_ fun _ hK2673 => ?_
       refine ad_ hK2673 ?_
       clear hK2673
       obtain rfl := os H
       exact rt1 Try.f14 rfl rfl hR_ ⟨rfl, HS.b⟩ )
     refine on_ (nB c2630) (v_ (ls_ (HS.mu 0 rfl) underlying67 part_all) ?_)
     refine on_ (nB c2630) (v_ (ls_ (HS.mu 42 rfl) underlying67 part_all) ?_)
     exact by (
     refine on_ (nB c2630) ?_
     obtain ⟨t2631, ha2632, H⟩ := bind_some H
     refine cs_ HS func64 (laws_eqTable.runs k (⟨t1509.2.1.f0, t1509.2.1.f1⟩ : S67) A2623 c2624 (⟨t75.2.1.f0, t75.2.1.f1⟩ : S67) A86 c87 t2631 _ (row_C rfl (HS.mu 2 rfl) (HS.getN 0 rfl)) (row_le (HS.mu 2 rfl)) (HS.getN 12 rfl) le88 ha2632) (fun w2633 HS => ?_)
     clear ha2632
     refine on_ (nB c2630) (nt_ ?_)
     refine v_ (Run.pickF rfl rfl (nB c2630) rfl) ?_
     refine mv_ ?_
     rcases eti_ H with ⟨c2634, H⟩ | ⟨c2634, H⟩
     · refine off_ (c' := true) (nB (bF c2634)) ?_
       exact by (
       refine WL.know 161 (nB (bF c2634)) ?_
       refine fast_ ?_
       refine via_ hK2626 (wy_ rfl ?_)
       clear hK2626
       refine sr_ fun _ hK2672 => ?_
       refine ad_ hK2672 ?_
       clear hK2672
       obtain rfl := os H
       exact rt1 Try.f14 rfl rfl hR_ ⟨rfl, HS.b⟩ )
     exact by (
     refine on_ (nB c2634) (mv_ ?_)
     refine on_ (nB c2634) (mv_ ?_)
     refine on_ (nB c2634) (v_ (Run.binB rfl rfl rfl (bin_neqB underlying4)) ?_)
     refine v_ (Run.pickF rfl rfl (nB c2634) rfl) ?_
     refine dn_ hK2626 ?_
     clear hK2626
     rcases eti_ H with ⟨c2635, H⟩ | ⟨c2635, H⟩
     · refine wy_ (qT c2635) (sr_ fun _ hK2671 => ?_)
       exact by (
       refine ad_ hK2671 ?_
       clear hK2671
       obtain rfl := os H
       exact rt1 Try.f14 rfl rfl hR_ ⟨rfl, HS.b⟩ )
     refine wn_ (qF c2635) (WC.skip (via_ hK2625 (sr_ fun _ hK2636 => ?_)))
     clear hK2625
     refine ad_ hK2636 ?_
     clear hK2636
     exact by (
     refine sr_ fun _ hK2637 => ?_
     refine v_ (ls_ (HS.mu 38 rfl) underlying58 part_all) ?_
     refine mv_ ?_
     refine ci_ (args := [.agg #[(.slice A1257 t1237.1.f0.length c1258), (.slice A1259 t1237.1.f1.length c1260)], vi 1]) func70 ?_
     refine cw_ (n := 18) func70 fun _ hR2638 => ?_
     refine sr_ fun _ hK2639 => ?_
     refine bo_ HS (fun b2640 w2641 hb2640 HS => ?_)
     refine ad_ hK2639 ?_
     exact by (
     clear hK2639
     refine sr_ fun _ hK2642 => ?_
     refine v_ (fa_ underlying58) ?_
     refine v_ (lb_ (HS.mu 0 rfl) underlying22 rfl) ?_
     refine mv_ ?_
     refine c_ func32 (laws_heldIntS.leaf A1257 t1237.1.f0.length c1258 1 Lv1406 _ (HS.leafK 20 rfl) (HS.leafT 20 rfl) q1408 (by rw [hL1407]; exact q1409) (1 + ((n22 t1237.1.f0) : Int)) (by rw [hL1407]; rfl)) ?_
     rintro _ w2643 ⟨rfl, hm_⟩
     replace HS := HS.below hm_
     exact by (
     refine ⟨_, rfl, ?_⟩
     clear hm_
     have hn2644 : ¬ (1 + ((n22 t1237.1.f0) : Int)) < 0 := by omega
     refine ad_ hK2642 ?_
     clear hK2642
     refine WC.seq fun _ hK2645 => ?_
     refine sr_ fun _ hK2646 => ?_
     refine mv_ ?_
     exact by (
     refine b_ bin_lss ?_
     refine dn_ hK2646 (wn_ (dF hn2644) (WC.skip (via_ hK2645 (sr_ fun _ hK2647 => ?_))))
     clear hK2646 hK2645
     refine v_ (fa_ underlying58) ?_
     refine v_ (lb_ (HS.mu 0 rfl) underlying56 rfl) ?_
     refine mv_ ?_
     refine c_ func131 (laws_heldCellSS.leaf A1259 t1237.1.f1.length c1260 (1 + ((n22 t1237.1.f0) : Int)) Lv1413 _ (HS.leafK 19 rfl) (HS.leafT 19 rfl) q1415 (by rw [hL1414]; exact q1416) ((1 + ((n22 t1237.1.f0) : Int)) + ((n56 t1237.1.f1) : Int)) (by rw [hL1414]; rfl)) ?_
     rintro _ w2648 ⟨rfl, hm_⟩
     exact by (
     replace HS := HS.below hm_
     refine ⟨_, rfl, ?_⟩
     clear hm_
     have hn2649 : ¬ ((1 + ((n22 t1237.1.f0) : Int)) + ((n56 t1237.1.f1) : Int)) < 0 := by omega
     refine ad_ hK2647 ?_
     clear hK2647
     refine WC.seq fun _ hK2650 => ?_
     refine sr_ fun _ hK2651 => ?_
     exact by (
     refine mv_ ?_
     refine b_ bin_lss ?_
     refine dn_ hK2651 (wn_ (dF hn2649) (WC.skip (via_ hK2650 (sr_ fun _ hK2652 => ?_))))
     clear hK2651 hK2650
     refine mv_ ?_
     refine ad_ hK2652 ?_
     clear hK2652
     refine WC.ret ?_
     exact by (
     refine fin1 Try.f70 rfl rfl hR2638 ⟨_, rfl, ?_⟩
     refine ad_ hK2637 ?_
     clear hK2637
     refine WC.seq fun _ hK2653 => ?_
     refine sr_ fun _ hK2654 => ?_
     refine mv_ ?_
     refine b_ bin_lss ?_
     refine dn_ hK2654 (wn_ (dF hn2649) (WC.skip (via_ hK2653 (sr_ fun _ hK2655 => ?_))))
     exact by (
     clear hK2654 hK2653
     refine v_ (ls_ (HS.mu 38 rfl) underlying67 part_all) ?_
     refine mv_ ?_
     refine ci_ (args := [.agg #[(.slice A1262 t1237.2.1.f0.length c1263), vi t1237.2.1.f1], vi ((1 + ((n22 t1237.1.f0) : Int)) + ((n56 t1237.1.f1) : Int))]) func72 ?_
     refine cw_ (n := 12) func72 fun _ hR2656 => ?_
     refine sr_ fun _ hK2657 => ?_
     refine bo_ HS (fun b2658 w2659 hb2658 HS => ?_)
     refine ad_ hK2657 ?_
     exact by (
     clear hK2657
     refine sr_ fun _ hK2660 => ?_
     refine v_ (fa_ underlying67) ?_
     refine v_ (lb_ (HS.mu 0 rfl) underlying22 rfl) ?_
     refine mv_ ?_
     refine c_ func32 (laws_heldIntS.leaf A1262 t1237.2.1.f0.length c1263 ((1 + ((n22 t1237.1.f0) : Int)) + ((n56 t1237.1.f1) : Int)) Lv1426 _ (HS.leafK 18 rfl) (HS.leafT 18 rfl) q1428 (by rw [hL1427]; exact q1429) (((1 + ((n22 t1237.1.f0) : Int)) + ((n56 t1237.1.f1) : Int)) + ((n22 t1237.2.1.f0) : Int)) (by rw [hL1427]; rfl)) ?_
     rintro _ w2661 ⟨rfl, hm_⟩
     replace HS := HS.below hm_
     exact by (
     refine ⟨_, rfl, ?_⟩
     clear hm_
     have hn2662 : ¬ (((1 + ((n22 t1237.1.f0) : Int)) + ((n56 t1237.1.f1) : Int)) + ((n22 t1237.2.1.f0) : Int)) < 0 := by omega
     refine ad_ hK2660 ?_
     clear hK2660
     refine WC.seq fun _ hK2663 => ?_
     refine sr_ fun _ hK2664 => ?_
     refine mv_ ?_
     exact by (
     refine b_ bin_lss ?_
     refine dn_ hK2664 (wn_ (dF hn2662) (WC.skip (via_ hK2663 (sr_ fun _ hK2665 => ?_))))
     clear hK2664 hK2663
     refine mv_ ?_
     refine ad_ hK2665 ?_
     clear hK2665
     refine WC.ret ?_
     refine fin1 Try.f72 rfl rfl hR2656 ⟨_, rfl, ?_⟩
     exact by (
     refine ad_ hK2655 ?_
     clear hK2655
     refine WC.seq fun _ hK2666 => ?_
     refine sr_ fun _ hK2667 => ?_
     refine mv_ ?_
     refine b_ bin_lss ?_
     refine dn_ hK2667 (wn_ (dF hn2662) (WC.skip (via_ hK2666 (WC.seq fun _ hK2668 => ?_))))
     clear hK2667 hK2666
     exact by (
     refine sr_ fun _ hK2669 => ?_
     refine mv_ ?_
     refine mv_ ?_
     refine b_ bin_neq ?_
     refine dn_ hK2669 (wn_ (qF rfl) (WC.skip (via_ hK2668 (sr_ fun _ hK2670 => ?_))))
     clear hK2669 hK2668
     refine ad_ hK2670 ?_
     clear hK2670
     obtain rfl := os H
     exact rt1 Try.f14 rfl rfl hR_ ⟨rfl, HS.b⟩ ))))))))))))))))))
   exact by (
   refine three__ 1 11 12 ?_ ?_ ?_
   · have HT_ := True.intro
     obtain ⟨t1470, ha1471, H⟩ := bind_some H
     refine dco_ 1 (w_none rfl) func60 (laws_toStore.runs k (⟨x0.f0, x0.f1⟩ : S84) A0_0 c0_0 A0_1 c0_1 t1470 _ (HS.getO 0 rfl) hc0_0 (HS.getO 1 rfl) hc0_1 ha1471) ?_
     clear ha1471
     rintro _ w1472 ⟨v1473, bl1474, v1475, bl1476, rfl, hO_, hb⟩
     replace HS := HS.got hb hO_
     dsimp only [List.cons_append, List.nil_append] at HS
     exact by (
     clear hO_
     obtain ⟨I1477, bl1478, HS⟩ := HS.unseal (sz := 1) rfl
     replace HS := HS.freezeN 1 (p := (rF kI t1470.f0 I1477)) rfl (fun _ hP_ _ => RepsB.reps hP_)
     dsimp only [List.eraseIdx] at HS
     replace HS := HS.front 1 rfl
     dsimp only [List.eraseIdx] at HS
     obtain ⟨I1479, bl1480, HS⟩ := HS.unseal (sz := 1) rfl
     refine ⟨⟨HS.nowO, HS.nowN.2, ⟨(HS.mu 41 rfl), (HS.mu 42 rfl), (HS.mu 43 rfl), trivial⟩⟩, _, rfl, ?_⟩
     exact by (
     clear hb
     refine three__ 3 11 12 ?_ ?_ ?_
     · have HT_ := True.intro
       obtain ⟨t1481, ha1482, H⟩ := bind_some H
       refine dco_ 3 (w_none rfl) func61 (laws_toTable.runs k (⟨x1.f0, x1.f1⟩ : S85) A1_0 c1_0 t1481 _ (HS.getO 2 rfl) hc1_0 ha1482) ?_
       clear ha1482
       rintro _ w1483 ⟨v1484, bl1485, rfl, hO_, hb⟩
       replace HS := HS.got hb hO_
       exact by (
       dsimp only [List.cons_append, List.nil_append] at HS
       clear hO_
       obtain ⟨I1486, bl1487, HS⟩ := HS.unseal (sz := 1) rfl
       replace HS := HS.freezeN 1 (p := (rF kI t1481.f0 I1486)) rfl (fun _ hP_ _ => RepsB.reps hP_)
       dsimp only [List.eraseIdx] at HS
       refine ⟨⟨HS.nowO, HS.nowN.2.2, ⟨(HS.mu 42 rfl), (HS.mu 43 rfl), (HS.mu 44 rfl), trivial⟩⟩, _, rfl, ?_⟩
       clear hb
       refine three__ 5 11 12 ?_ ?_ ?_
       · have HT_ := True.intro
         exact by (
         obtain ⟨t1488, ha1489, H⟩ := bind_some H
         refine dco_ 5 (w_none rfl) func74 (laws_toCell.runs k (⟨x2.f0, x2.f1⟩ : S98) A2_0 c2_0 A2_1 c2_1 t1488 _ (HS.getO 3 rfl) hc2_0 (HS.getO 4 rfl) hc2_1 ha1489) ?_
         clear ha1489
         rintro _ w1490 ⟨v1491, bl1492, v1493, bl1494, rfl, hO_, hb⟩
         replace HS := HS.got hb hO_
         dsimp only [List.cons_append, List.nil_append] at HS
         clear hO_
         obtain ⟨I1495, bl1496, HS⟩ := HS.unseal (sz := 1) rfl
         exact by (
         replace HS := HS.front 2 rfl
         dsimp only [List.eraseIdx] at HS
         obtain ⟨I1497, bl1498, HS⟩ := HS.unseal (sz := 1) rfl
         refine ⟨⟨HS.nowO, HS.nowN.2.2, ⟨(HS.mu 46 rfl), (HS.mu 47 rfl), (HS.mu 48 rfl), trivial⟩⟩, _, rfl, ?_⟩
         clear hb
         refine three__ 6 11 12 ?_ ?_ ?_
         · have HT_ := True.intro
           obtain ⟨A1499, c1500, rfl⟩ := row_slice (HS.mu 7 rfl)
           exact by (
           obtain ⟨A1501, c1502, rfl⟩ := row_slice (HS.mu 5 rfl)
           obtain ⟨A1503, c1504, rfl⟩ := row_slice (HS.mu 4 rfl)
           obtain ⟨A1505, c1506, rfl⟩ := row_slice (HS.mu 2 rfl)
           obtain ⟨A1507, c1508, rfl⟩ := row_slice (HS.mu 0 rfl)
           obtain ⟨t1509, ha1510, H⟩ := bind_some H
           refine dco_ 6 (w_none rfl) func45 (impl_AddCell.runs k t1470 A1499 c1500 A1501 c1502 t1481 A1503 c1504 t1488 A1505 c1506 A1507 c1508 t1509.1 t1509.2.1 t1509.2.2 _ (row_C rfl (HS.mu 7 rfl) (HS.getN 1 rfl)) (row_le (HS.mu 7 rfl)) (row_C rfl (HS.mu 5 rfl) (HS.elsK 6 rfl)) (row_le (HS.mu 5 rfl)) (row_C rfl (HS.mu 4 rfl) (HS.getN 0 rfl)) (row_le (HS.mu 4 rfl)) (row_C rfl (HS.mu 2 rfl) (HS.elsK 3 rfl)) (row_le (HS.mu 2 rfl)) (row_C rfl (HS.mu 0 rfl) (HS.elsK 1 rfl)) (row_le (HS.mu 0 rfl)) ha1510) ?_
           clear ha1510
           rintro _ w1511 ⟨v1512, bl1513, v1514, bl1515, v1516, bl1517, rfl, hO_, hb⟩
           exact by (
           replace HS := HS.got hb hO_
           dsimp only [List.cons_append, List.nil_append] at HS
           clear hO_
           obtain ⟨I1518, bl1519, HS⟩ := HS.unseal (sz := 1) rfl
           replace HS := HS.freezeN 1 (p := (rF kI t1509.1.f0 I1518)) rfl (fun _ hP_ _ => RepsB.reps hP_)
           dsimp only [List.eraseIdx] at HS
           replace HS := HS.front 1 rfl
           dsimp only [List.eraseIdx] at HS
           exact by (
           obtain ⟨I1520, bl1521, HS⟩ := HS.unseal (sz := 1) rfl
           replace HS := HS.front 3 rfl
           dsimp only [List.eraseIdx] at HS
           obtain ⟨I1522, bl1523, HS⟩ := HS.unseal (sz := 1) rfl
           replace HS := HS.freezeN 1 (p := (rF kI t1509.2.1.f0 I1522)) rfl (fun _ hP_ _ => RepsB.reps hP_)
           dsimp only [List.eraseIdx] at HS
           refine ⟨⟨HS.nowO, HS.nowN.2.2.2.2, ⟨(HS.mu 50 rfl), (HS.mu 51 rfl), (HS.mu 52 rfl), trivial⟩⟩, _, rfl, ?_⟩
           clear hb
           exact by (
           refine dm_ 7 ?_
           refine dp_ 8 (fun _ => Run.extract rfl rfl rfl) ?_
           refine dp_ 9 (fun _ => Run.extract rfl rfl rfl) ?_
           refine dp_ 10 (fun _ => Run.extract rfl rfl rfl) ?_
           refine two__ 11 12 ?_ ?_
           · have HT_ := True.intro
             refine WDo.alloc (v := .agg #[sn, sn]) (cs := #[sn, sn]) 11 (w_none rfl) HS rfl (by kernel_rfl) rfl (fun b1524 w1525 hb1524 HS => ?_)
             refine ⟨⟨HS.nowO, HS.nowN.2.2.2.2, ⟨(HS.mu 51 rfl), (HS.mu 52 rfl), (HS.mu 53 rfl), trivial⟩⟩, ?_⟩
             exact by (
             refine WD.alloc (v := .agg #[sn, vi 0]) (cs := #[sn, vi 0]) 12 (w_none rfl) HS rfl (by kernel_rfl) rfl (fun b1526 w1527 hb1526 HS => ?_)
             refine ⟨⟨HS.nowO, HS.nowN.2.2.2.2, ⟨(HS.mu 52 rfl), (HS.mu 53 rfl), (HS.mu 54 rfl), trivial⟩⟩, ?_⟩
             exact useWD X1469 ⟨b1524, b1526, A1499, t1470, c1500, A1501, c1502, A1503, t1481, c1504, A1505, t1488, c1506, A1507, c1508, v1512, v1514, v1516, t1509, I1522, I1520, bl1521, I1518, I1497, bl1498, I1495, bl1496, I1486, I1479, bl1480, I1477, rfl, H, HS⟩ )
           · have HT_ := True.intro
             refine WDo.alloc (v := .agg #[sn, vi 0]) (cs := #[sn, vi 0]) 12 (w_none rfl) HS rfl (by kernel_rfl) rfl (fun b1528 w1529 hb1528 HS => ?_)
             refine ⟨⟨HS.nowO, HS.nowN.2.2.2.2, ⟨(HS.mu 51 rfl), (HS.mu 52 rfl), (HS.mu 53 rfl), trivial⟩⟩, ?_⟩
             refine WD.alloc (v := .agg #[sn, sn]) (cs := #[sn, sn]) 11 (w_none rfl) HS rfl (by kernel_rfl) rfl (fun b1530 w1531 hb1530 HS => ?_)
             refine ⟨⟨HS.nowO, HS.nowN.2.2.2.2, ⟨(HS.mu 52 rfl), (HS.mu 53 rfl), (HS.mu 54 rfl), trivial⟩⟩, ?_⟩
             exact useWD X1469 ⟨b1530, b1528, A1499, t1470, c1500, A1501, c1502, A1503, t1481, c1504, A1505, t1488, c1506, A1507, c1508, v1512, v1514, v1516, t1509, I1522, I1520, bl1521, I1518, I1497, bl1498, I1495, bl1496, I1486, I1479, bl1480, I1477, rfl, H, (St.sel HS [1, 0, 2, 3, 4, 5, 6, 7, 8, 9, 10, 11, 12, 13, 14, 15, 16, 17, 18, 19, 20, 21, 22, 23, 24, 25, 26, 27, 28, 29, 30, 31, 32, 33, 34, 35, 36, 37, 38, 39, 40, 41, 42, 43, 44, 45, 46, 47, 48, 49, 50, 51, 52, 53, 54])⟩ ))))
         · have HT_ := True.intro
           exact by (
           refine WDo.alloc (v := .agg #[sn, sn]) (cs := #[sn, sn]) 11 (w_none rfl) HS rfl (by kernel_rfl) rfl (fun b1532 w1533 hb1532 HS => ?_)
           refine ⟨⟨HS.nowO, HS.nowN.2.2, ⟨(HS.mu 47 rfl), (HS.mu 48 rfl), (HS.mu 49 rfl), trivial⟩⟩, ?_⟩
           refine two__ 6 12 ?_ ?_
           · have HT_ := True.intro
             obtain ⟨A1534, c1535, rfl⟩ := row_slice (HS.mu 8 rfl)
             obtain ⟨A1536, c1537, rfl⟩ := row_slice (HS.mu 6 rfl)
             obtain ⟨A1538, c1539, rfl⟩ := row_slice (HS.mu 5 rfl)
             obtain ⟨A1540, c1541, rfl⟩ := row_slice (HS.mu 3 rfl)
             exact by (
             obtain ⟨A1542, c1543, rfl⟩ := row_slice (HS.mu 1 rfl)
             obtain ⟨t1544, ha1545, H⟩ := bind_some H
             refine dco_ 6 (w_none rfl) func45 (impl_AddCell.runs k t1470 A1534 c1535 A1536 c1537 t1481 A1538 c1539 t1488 A1540 c1541 A1542 c1543 t1544.1 t1544.2.1 t1544.2.2 _ (row_C rfl (HS.mu 8 rfl) (HS.getN 1 rfl)) (row_le (HS.mu 8 rfl)) (row_C rfl (HS.mu 6 rfl) (HS.elsK 7 rfl)) (row_le (HS.mu 6 rfl)) (row_C rfl (HS.mu 5 rfl) (HS.getN 0 rfl)) (row_le (HS.mu 5 rfl)) (row_C rfl (HS.mu 3 rfl) (HS.elsK 4 rfl)) (row_le (HS.mu 3 rfl)) (row_C rfl (HS.mu 1 rfl) (HS.elsK 2 rfl)) (row_le (HS.mu 1 rfl)) ha1545) ?_
             clear ha1545
             rintro _ w1546 ⟨v1547, bl1548, v1549, bl1550, v1551, bl1552, rfl, hO_, hb⟩
             replace HS := HS.got hb hO_
             dsimp only [List.cons_append, List.nil_append] at HS
             clear hO_
             exact by (
             obtain ⟨I1553, bl1554, HS⟩ := HS.unseal (sz := 1) rfl
             replace HS := HS.freezeN 1 (p := (rF kI t1544.1.f0 I1553)) rfl (fun _ hP_ _ => RepsB.reps hP_)
             dsimp only [List.eraseIdx] at HS
             replace HS := HS.front 1 rfl
             dsimp only [List.eraseIdx] at HS
             obtain ⟨I1555, bl1556, HS⟩ := HS.unseal (sz := 1) rfl
             replace HS := HS.front 3 rfl
             dsimp only [List.eraseIdx] at HS
             exact by (
             obtain ⟨I1557, bl1558, HS⟩ := HS.unseal (sz := 1) rfl
             replace HS := HS.freezeN 1 (p := (rF kI t1544.2.1.f0 I1557)) rfl (fun _ hP_ _ => RepsB.reps hP_)
             dsimp only [List.eraseIdx] at HS
             refine ⟨⟨HS.nowO, HS.nowN.2.2.2.2, ⟨(HS.mu 51 rfl), (HS.mu 52 rfl), (HS.mu 53 rfl), trivial⟩⟩, _, rfl, ?_⟩
             clear hb
             refine dm_ 7 ?_
             refine dp_ 8 (fun _ => Run.extract rfl rfl rfl) ?_
             refine dp_ 9 (fun _ => Run.extract rfl rfl rfl) ?_
             exact by (
             refine dp_ 10 (fun _ => Run.extract rfl rfl rfl) ?_
             refine WD.alloc (v := .agg #[sn, vi 0]) (cs := #[sn, vi 0]) 12 (w_none rfl) HS rfl (by kernel_rfl) rfl (fun b1559 w1560 hb1559 HS => ?_)
             refine ⟨⟨HS.nowO, HS.nowN.2.2.2.2, ⟨(HS.mu 52 rfl), (HS.mu 53 rfl), (HS.mu 54 rfl), trivial⟩⟩, ?_⟩
             exact useWD X1469 ⟨b1532, b1559, A1534, t1470, c1535, A1536, c1537, A1538, t1481, c1539, A1540, t1488, c1541, A1542, c1543, v1547, v1549, v1551, t1544, I1557, I1555, bl1556, I1553, I1497, bl1498, I1495, bl1496, I1486, I1479, bl1480, I1477, rfl, H, (St.sel HS [0, 5, 1, 2, 3, 4, 6, 7, 8, 9, 10, 11, 12, 13, 14, 15, 16, 17, 18, 19, 20, 21, 22, 23, 24, 25, 26, 27, 28, 29, 30, 31, 32, 33, 34, 35, 36, 37, 38, 39, 40, 41, 42, 43, 44, 45, 46, 47, 48, 49, 50, 51, 52, 53, 54])⟩ ))))
           · have HT_ := True.intro
             refine WDo.alloc (v := .agg #[sn, vi 0]) (cs := #[sn, vi 0]) 12 (w_none rfl) HS rfl (by kernel_rfl) rfl (fun b1561 w1562 hb1561 HS => ?_)
             refine ⟨⟨HS.nowO, HS.nowN.2.2, ⟨(HS.mu 48 rfl), (HS.mu 49 rfl), (HS.mu 50 rfl), trivial⟩⟩, ?_⟩
             obtain ⟨A1563, c1564, rfl⟩ := row_slice (HS.mu 9 rfl)
             exact by (
             obtain ⟨A1565, c1566, rfl⟩ := row_slice (HS.mu 7 rfl)
             obtain ⟨A1567, c1568, rfl⟩ := row_slice (HS.mu 6 rfl)
             obtain ⟨A1569, c1570, rfl⟩ := row_slice (HS.mu 4 rfl)
             obtain ⟨A1571, c1572, rfl⟩ := row_slice (HS.mu 2 rfl)
             obtain ⟨t1573, ha1574, H⟩ := bind_some H
             refine dc_ 6 (w_none rfl) func45 (impl_AddCell.runs k t1470 A1563 c1564 A1565 c1566 t1481 A1567 c1568 t1488 A1569 c1570 A1571 c1572 t1573.1 t1573.2.1 t1573.2.2 _ (row_C rfl (HS.mu 9 rfl) (HS.getN 1 rfl)) (row_le (HS.mu 9 rfl)) (row_C rfl (HS.mu 7 rfl) (HS.elsK 8 rfl)) (row_le (HS.mu 7 rfl)) (row_C rfl (HS.mu 6 rfl) (HS.getN 0 rfl)) (row_le (HS.mu 6 rfl)) (row_C rfl (HS.mu 4 rfl) (HS.elsK 5 rfl)) (row_le (HS.mu 4 rfl)) (row_C rfl (HS.mu 2 rfl) (HS.elsK 3 rfl)) (row_le (HS.mu 2 rfl)) ha1574) ?_
             clear ha1574
             rintro _ w1575 ⟨v1576, bl1577, v1578, bl1579, v1580, bl1581, rfl, hO_, hb⟩
             exact by (
             replace HS := HS.got hb hO_
             dsimp only [List.cons_append, List.nil_append] at HS
             clear hO_
             obtain ⟨I1582, bl1583, HS⟩ := HS.unseal (sz := 1) rfl
             replace HS := HS.freezeN 1 (p := (rF kI t1573.1.f0 I1582)) rfl (fun _ hP_ _ => RepsB.reps hP_)
             dsimp only [List.eraseIdx] at HS
             replace HS := HS.front 1 rfl
             dsimp only [List.eraseIdx] at HS
             exact by (
             obtain ⟨I1584, bl1585, HS⟩ := HS.unseal (sz := 1) rfl
             replace HS := HS.front 3 rfl
             dsimp only [List.eraseIdx] at HS
             obtain ⟨I1586, bl1587, HS⟩ := HS.unseal (sz := 1) rfl
             replace HS := HS.freezeN 1 (p := (rF kI t1573.2.1.f0 I1586)) rfl (fun _ hP_ _ => RepsB.reps hP_)
             dsimp only [List.eraseIdx] at HS
             refine ⟨⟨HS.nowO, HS.nowN.2.2.2.2, ⟨(HS.mu 52 rfl), (HS.mu 53 rfl), (HS.mu 54 rfl), trivial⟩⟩, _, rfl, ?_⟩
             clear hb
             exact by (
             refine dm_ 7 ?_
             refine dp_ 8 (fun _ => Run.extract rfl rfl rfl) ?_
             refine dp_ 9 (fun _ => Run.extract rfl rfl rfl) ?_
             refine dp_ 10 (fun _ => Run.extract rfl rfl rfl) ?_
             exact useWD X1469 ⟨b1532, b1561, A1563, t1470, c1564, A1565, c1566, A1567, t1481, c1568, A1569, t1488, c1570, A1571, c1572, v1576, v1578, v1580, t1573, I1586, I1584, bl1585, I1582, I1497, bl1498, I1495, bl1496, I1486, I1479, bl1480, I1477, rfl, H, (St.sel HS [4, 5, 0, 1, 2, 3, 6, 7, 8, 9, 10, 11, 12, 13, 14, 15, 16, 17, 18, 19, 20, 21, 22, 23, 24, 25, 26, 27, 28, 29, 30, 31, 32, 33, 34, 35, 36, 37, 38, 39, 40, 41, 42, 43, 44, 45, 46, 47, 48, 49, 50, 51, 52, 53, 54])⟩ )))))
         · have HT_ := True.intro
           refine WDo.alloc (v := .agg #[sn, vi 0]) (cs := #[sn, vi 0]) 12 (w_none rfl) HS rfl (by kernel_rfl) rfl (fun b1588 w1589 hb1588 HS => ?_)
           refine ⟨⟨HS.nowO, HS.nowN.2.2, ⟨(HS.mu 47 rfl), (HS.mu 48 rfl), (HS.mu 49 rfl), trivial⟩⟩, ?_⟩
           exact by (
           refine two__ 6 11 ?_ ?_
           · have HT_ := True.intro
             obtain ⟨A1590, c1591, rfl⟩ := row_slice (HS.mu 8 rfl)
             obtain ⟨A1592, c1593, rfl⟩ := row_slice (HS.mu 6 rfl)
             obtain ⟨A1594, c1595, rfl⟩ := row_slice (HS.mu 5 rfl)
             obtain ⟨A1596, c1597, rfl⟩ := row_slice (HS.mu 3 rfl)
             obtain ⟨A1598, c1599, rfl⟩ := row_slice (HS.mu 1 rfl)
             obtain ⟨t1600, ha1601, H⟩ := bind_some H
             exact by (
             refine dco_ 6 (w_none rfl) func45 (impl_AddCell.runs k t1470 A1590 c1591 A1592 c1593 t1481 A1594 c1595 t1488 A1596 c1597 A1598 c1599 t1600.1 t1600.2.1 t1600.2.2 _ (row_C rfl (HS.mu 8 rfl) (HS.getN 1 rfl)) (row_le (HS.mu 8 rfl)) (row_C rfl (HS.mu 6 rfl) (HS.elsK 7 rfl)) (row_le (HS.mu 6 rfl)) (row_C rfl (HS.mu 5 rfl) (HS.getN 0 rfl)) (row_le (HS.mu 5 rfl)) (row_C rfl (HS.mu 3 rfl) (HS.elsK 4 rfl)) (row_le (HS.mu 3 rfl)) (row_C rfl (HS.mu 1 rfl) (HS.elsK 2 rfl)) (row_le (HS.mu 1 rfl)) ha1601) ?_
             clear ha1601
             rintro _ w1602 ⟨v1603, bl1604, v1605, bl1606, v1607, bl1608, rfl, hO_, hb⟩
             replace HS := HS.got hb hO_
             dsimp only [List.cons_append, List.nil_append] at HS
             clear hO_
             obtain ⟨I1609, bl1610, HS⟩ := HS.unseal (sz := 1) rfl
             replace HS := HS.freezeN 1 (p := (rF kI t1600.1.f0 I1609)) rfl (fun _ hP_ _ => RepsB.reps hP_)
             exact by (
             dsimp only [List.eraseIdx] at HS
             replace HS := HS.front 1 rfl
             dsimp only [List.eraseIdx] at HS
             obtain ⟨I1611, bl1612, HS⟩ := HS.unseal (sz := 1) rfl
             replace HS := HS.front 3 rfl
             dsimp only [List.eraseIdx] at HS
             obtain ⟨I1613, bl1614, HS⟩ := HS.unseal (sz := 1) rfl
             replace HS := HS.freezeN 1 (p := (rF kI t1600.2.1.f0 I1613)) rfl (fun _ hP_ _ => RepsB.reps hP_)
             exact by (
             dsimp only [List.eraseIdx] at HS
             refine ⟨⟨HS.nowO, HS.nowN.2.2.2.2, ⟨(HS.mu 51 rfl), (HS.mu 52 rfl), (HS.mu 53 rfl), trivial⟩⟩, _, rfl, ?_⟩
             clear hb
             refine dm_ 7 ?_
             refine dp_ 8 (fun _ => Run.extract rfl rfl rfl) ?_
             refine dp_ 9 (fun _ => Run.extract rfl rfl rfl) ?_
             refine dp_ 10 (fun _ => Run.extract rfl rfl rfl) ?_
             refine WD.alloc (v := .agg #[sn, sn]) (cs := #[sn, sn]) 11 (w_none rfl) HS rfl (by kernel_rfl) rfl (fun b1615 w1616 hb1615 HS => ?_)
             exact by (
             refine ⟨⟨HS.nowO, HS.nowN.2.2.2.2, ⟨(HS.mu 52 rfl), (HS.mu 53 rfl), (HS.mu 54 rfl), trivial⟩⟩, ?_⟩
             exact useWD X1469 ⟨b1615, b1588, A1590, t1470, c1591, A1592, c1593, A1594, t1481, c1595, A1596, t1488, c1597, A1598, c1599, v1603, v1605, v1607, t1600, I1613, I1611, bl1612, I1609, I1497, bl1498, I1495, bl1496, I1486, I1479, bl1480, I1477, rfl, H, (St.sel HS [5, 0, 1, 2, 3, 4, 6, 7, 8, 9, 10, 11, 12, 13, 14, 15, 16, 17, 18, 19, 20, 21, 22, 23, 24, 25, 26, 27, 28, 29, 30, 31, 32, 33, 34, 35, 36, 37, 38, 39, 40, 41, 42, 43, 44, 45, 46, 47, 48, 49, 50, 51, 52, 53, 54])⟩ ))))
           · have HT_ := True.intro
             refine WDo.alloc (v := .agg #[sn, sn]) (cs := #[sn, sn]) 11 (w_none rfl) HS rfl (by kernel_rfl) rfl (fun b1617 w1618 hb1617 HS => ?_)
             refine ⟨⟨HS.nowO, HS.nowN.2.2, ⟨(HS.mu 48 rfl), (HS.mu 49 rfl), (HS.mu 50 rfl), trivial⟩⟩, ?_⟩
             obtain ⟨A1619, c1620, rfl⟩ := row_slice (HS.mu 9 rfl)
             obtain ⟨A1621, c1622, rfl⟩ := row_slice (HS.mu 7 rfl)
             obtain ⟨A1623, c1624, rfl⟩ := row_slice (HS.mu 6 rfl)
             exact by (
             obtain ⟨A1625, c1626, rfl⟩ := row_slice (HS.mu 4 rfl)
             obtain ⟨A1627, c1628, rfl⟩ := row_slice (HS.mu 2 rfl)
             obtain ⟨t1629, ha1630, H⟩ := bind_some H
             refine dc_ 6 (w_none rfl) func45 (impl_AddCell.runs k t1470 A1619 c1620 A1621 c1622 t1481 A1623 c1624 t1488 A1625 c1626 A1627 c1628 t1629.1 t1629.2.1 t1629.2.2 _ (row_C rfl (HS.mu 9 rfl) (HS.getN 1 rfl)) (row_le (HS.mu 9 rfl)) (row_C rfl (HS.mu 7 rfl) (HS.elsK 8 rfl)) (row_le (HS.mu 7 rfl)) (row_C rfl (HS.mu 6 rfl) (HS.getN 0 rfl)) (row_le (HS.mu 6 rfl)) (row_C rfl (HS.mu 4 rfl) (HS.elsK 5 rfl)) (row_le (HS.mu 4 rfl)) (row_C rfl (HS.mu 2 rfl) (HS.elsK 3 rfl)) (row_le (HS.mu 2 rfl)) ha1630) ?_
             clear ha1630
             rintro _ w1631 ⟨v1632, bl1633, v1634, bl1635, v1636, bl1637, rfl, hO_, hb⟩
             replace HS := HS.got hb hO_
             dsimp only [List.cons_append, List.nil_append] at HS
             exact by (
             clear hO_
             obtain ⟨I1638, bl1639, HS⟩ := HS.unseal (sz := 1) rfl
             replace HS := HS.freezeN 1 (p := (rF kI t1629.1.f0 I1638)) rfl (fun _ hP_ _ => RepsB.reps hP_)
             dsimp only [List.eraseIdx] at HS
             replace HS := HS.front 1 rfl
             dsimp only [List.eraseIdx] at HS
             obtain ⟨I1640, bl1641, HS⟩ := HS.unseal (sz := 1) rfl
             replace HS := HS.front 3 rfl
             exact by (
             dsimp only [List.eraseIdx] at HS
             obtain ⟨I1642, bl1643, HS⟩ := HS.unseal (sz := 1) rfl
             replace HS := HS.freezeN 1 (p := (rF kI t1629.2.1.f0 I1642)) rfl (fun _ hP_ _ => RepsB.reps hP_)
             dsimp only [List.eraseIdx] at HS
             refine ⟨⟨HS.nowO, HS.nowN.2.2.2.2, ⟨(HS.mu 52 rfl), (HS.mu 53 rfl), (HS.mu 54 rfl), trivial⟩⟩, _, rfl, ?_⟩
             clear hb
             refine dm_ 7 ?_
             refine dp_ 8 (fun _ => Run.extract rfl rfl rfl) ?_
             exact by (
             refine dp_ 9 (fun _ => Run.extract rfl rfl rfl) ?_
             refine dp_ 10 (fun _ => Run.extract rfl rfl rfl) ?_
             exact useWD X1469 ⟨b1617, b1588, A1619, t1470, c1620, A1621, c1622, A1623, t1481, c1624, A1625, t1488, c1626, A1627, c1628, v1632, v1634, v1636, t1629, I1642, I1640, bl1641, I1638, I1497, bl1498, I1495, bl1496, I1486, I1479, bl1480, I1477, rfl, H, (St.sel HS [5, 4, 0, 1, 2, 3, 6, 7, 8, 9, 10, 11, 12, 13, 14, 15, 16, 17, 18, 19, 20, 21, 22, 23, 24, 25, 26, 27, 28, 29, 30, 31, 32, 33, 34, 35, 36, 37, 38, 39, 40, 41, 42, 43, 44, 45, 46, 47, 48, 49, 50, 51, 52, 53, 54])⟩ )))))))
       · have HT_ := True.intro
         refine WDo.alloc (v := .agg #[sn, sn]) (cs := #[sn, sn]) 11 (w_none rfl) HS rfl (by kernel_rfl) rfl (fun b1644 w1645 hb1644 HS => ?_)
         refine ⟨⟨HS.nowO, HS.nowN.2.2, ⟨(HS.mu 43 rfl), (HS.mu 44 rfl), (HS.mu 45 rfl), trivial⟩⟩, ?_⟩
         refine two__ 5 12 ?_ ?_
         · have HT_ := True.intro
           exact by (
           obtain ⟨t1646, ha1647, H⟩ := bind_some H
           refine dco_ 5 (w_none rfl) func74 (laws_toCell.runs k (⟨x2.f0, x2.f1⟩ : S98) A2_0 c2_0 A2_1 c2_1 t1646 _ (HS.getO 3 rfl) hc2_0 (HS.getO 4 rfl) hc2_1 ha1647) ?_
           clear ha1647
           rintro _ w1648 ⟨v1649, bl1650, v1651, bl1652, rfl, hO_, hb⟩
           replace HS := HS.got hb hO_
           dsimp only [List.cons_append, List.nil_append] at HS
           clear hO_
           obtain ⟨I1653, bl1654, HS⟩ := HS.unseal (sz := 1) rfl
           exact by (
           replace HS := HS.front 2 rfl
           dsimp only [List.eraseIdx] at HS
           obtain ⟨I1655, bl1656, HS⟩ := HS.unseal (sz := 1) rfl
           refine ⟨⟨HS.nowO, HS.nowN.2.2, ⟨(HS.mu 47 rfl), (HS.mu 48 rfl), (HS.mu 49 rfl), trivial⟩⟩, _, rfl, ?_⟩
           clear hb
           refine two__ 6 12 ?_ ?_
           · have HT_ := True.intro
             obtain ⟨A1657, c1658, rfl⟩ := row_slice (HS.mu 8 rfl)
             exact by (
             obtain ⟨A1659, c1660, rfl⟩ := row_slice (HS.mu 6 rfl)
             obtain ⟨A1661, c1662, rfl⟩ := row_slice (HS.mu 5 rfl)
             obtain ⟨A1663, c1664, rfl⟩ := row_slice (HS.mu 2 rfl)
             obtain ⟨A1665, c1666, rfl⟩ := row_slice (HS.mu 0 rfl)
             obtain ⟨t1667, ha1668, H⟩ := bind_some H
             refine dco_ 6 (w_none rfl) func45 (impl_AddCell.runs k t1470 A1657 c1658 A1659 c1660 t1481 A1661 c1662 t1646 A1663 c1664 A1665 c1666 t1667.1 t1667.2.1 t1667.2.2 _ (row_C rfl (HS.mu 8 rfl) (HS.getN 1 rfl)) (row_le (HS.mu 8 rfl)) (row_C rfl (HS.mu 6 rfl) (HS.elsK 7 rfl)) (row_le (HS.mu 6 rfl)) (row_C rfl (HS.mu 5 rfl) (HS.getN 0 rfl)) (row_le (HS.mu 5 rfl)) (row_C rfl (HS.mu 2 rfl) (HS.elsK 3 rfl)) (row_le (HS.mu 2 rfl)) (row_C rfl (HS.mu 0 rfl) (HS.elsK 1 rfl)) (row_le (HS.mu 0 rfl)) ha1668) ?_
             clear ha1668
             rintro _ w1669 ⟨v1670, bl1671, v1672, bl1673, v1674, bl1675, rfl, hO_, hb⟩
             exact by (
             replace HS := HS.got hb hO_
             dsimp only [List.cons_append, List.nil_append] at HS
             clear hO_
             obtain ⟨I1676, bl1677, HS⟩ := HS.unseal (sz := 1) rfl
             replace HS := HS.freezeN 1 (p := (rF kI t1667.1.f0 I1676)) rfl (fun _ hP_ _ => RepsB.reps hP_)
             dsimp only [List.eraseIdx] at HS
             replace HS := HS.front 1 rfl
             dsimp only [List.eraseIdx] at HS
             exact by (
             obtain ⟨I1678, bl1679, HS⟩ := HS.unseal (sz := 1) rfl
             replace HS := HS.front 3 rfl
             dsimp only [List.eraseIdx] at HS
             obtain ⟨I1680, bl1681, HS⟩ := HS.unseal (sz := 1) rfl
             replace HS := HS.freezeN 1 (p := (rF kI t1667.2.1.f0 I1680)) rfl (fun _ hP_ _ => RepsB.reps hP_)
             dsimp only [List.eraseIdx] at HS
             refine ⟨⟨HS.nowO, HS.nowN.2.2.2.2, ⟨(HS.mu 51 rfl), (HS.mu 52 rfl), (HS.mu 53 rfl), trivial⟩⟩, _, rfl, ?_⟩
             clear hb
             exact by (
             refine dm_ 7 ?_
             refine dp_ 8 (fun _ => Run.extract rfl rfl rfl) ?_
             refine dp_ 9 (fun _ => Run.extract rfl rfl rfl) ?_
             refine dp_ 10 (fun _ => Run.extract rfl rfl rfl) ?_
             refine WD.alloc (v := .agg #[sn, vi 0]) (cs := #[sn, vi 0]) 12 (w_none rfl) HS rfl (by kernel_rfl) rfl (fun b1682 w1683 hb1682 HS => ?_)
             refine ⟨⟨HS.nowO, HS.nowN.2.2.2.2, ⟨(HS.mu 52 rfl), (HS.mu 53 rfl), (HS.mu 54 rfl), trivial⟩⟩, ?_⟩
             exact useWD X1469 ⟨b1644, b1682, A1657, t1470, c1658, A1659, c1660, A1661, t1481, c1662, A1663, t1646, c1664, A1665, c1666, v1670, v1672, v1674, t1667, I1680, I1678, bl1679, I1676, I1655, bl1656, I1653, bl1654, I1486, I1479, bl1480, I1477, rfl, H, (St.sel HS [0, 9, 1, 2, 3, 4, 5, 6, 7, 8, 10, 11, 12, 13, 14, 15, 16, 17, 18, 19, 20, 21, 22, 23, 24, 25, 26, 27, 28, 29, 30, 31, 32, 33, 34, 35, 36, 37, 38, 39, 40, 41, 42, 43, 44, 45, 46, 47, 48, 49, 50, 51, 52, 53, 54])⟩ ))))
           · have HT_ := True.intro
             exact by (
             refine WDo.alloc (v := .agg #[sn, vi 0]) (cs := #[sn, vi 0]) 12 (w_none rfl) HS rfl (by kernel_rfl) rfl (fun b1684 w1685 hb1684 HS => ?_)
             refine ⟨⟨HS.nowO, HS.nowN.2.2, ⟨(HS.mu 48 rfl), (HS.mu 49 rfl), (HS.mu 50 rfl), trivial⟩⟩, ?_⟩
             obtain ⟨A1686, c1687, rfl⟩ := row_slice (HS.mu 9 rfl)
             obtain ⟨A1688, c1689, rfl⟩ := row_slice (HS.mu 7 rfl)
             obtain ⟨A1690, c1691, rfl⟩ := row_slice (HS.mu 6 rfl)
             obtain ⟨A1692, c1693, rfl⟩ := row_slice (HS.mu 3 rfl)
             obtain ⟨A1694, c1695, rfl⟩ := row_slice (HS.mu 1 rfl)
             obtain ⟨t1696, ha1697, H⟩ := bind_some H
             exact by (
             refine dc_ 6 (w_none rfl) func45 (impl_AddCell.runs k t1470 A1686 c1687 A1688 c1689 t1481 A1690 c1691 t1646 A1692 c1693 A1694 c1695 t1696.1 t1696.2.1 t1696.2.2 _ (row_C rfl (HS.mu 9 rfl) (HS.getN 1 rfl)) (row_le (HS.mu 9 rfl)) (row_C rfl (HS.mu 7 rfl) (HS.elsK 8 rfl)) (row_le (HS.mu 7 rfl)) (row_C rfl (HS.mu 6 rfl) (HS.getN 0 rfl)) (row_le (HS.mu 6 rfl)) (row_C rfl (HS.mu 3 rfl) (HS.elsK 4 rfl)) (row_le (HS.mu 3 rfl)) (row_C rfl (HS.mu 1 rfl) (HS.elsK 2 rfl)) (row_le (HS.mu 1 rfl)) ha1697) ?_
             clear ha1697
             rintro _ w1698 ⟨v1699, bl1700, v1701, bl1702, v1703, bl1704, rfl, hO_, hb⟩
             replace HS := HS.got hb hO_
             dsimp only [List.cons_append, List.nil_append] at HS
             clear hO_
             obtain ⟨I1705, bl1706, HS⟩ := HS.unseal (sz := 1) rfl
             replace HS := HS.freezeN 1 (p := (rF kI t1696.1.f0 I1705)) rfl (fun _ hP_ _ => RepsB.reps hP_)
             exact by (
             dsimp only [List.eraseIdx] at HS
             replace HS := HS.front 1 rfl
             dsimp only [List.eraseIdx] at HS
             obtain ⟨I1707, bl1708, HS⟩ := HS.unseal (sz := 1) rfl
             replace HS := HS.front 3 rfl
             dsimp only [List.eraseIdx] at HS
             obtain ⟨I1709, bl1710, HS⟩ := HS.unseal (sz := 1) rfl
             replace HS := HS.freezeN 1 (p := (rF kI t1696.2.1.f0 I1709)) rfl (fun _ hP_ _ => RepsB.reps hP_)
             exact by (
             dsimp only [List.eraseIdx] at HS
             refine ⟨⟨HS.nowO, HS.nowN.2.2.2.2, ⟨(HS.mu 52 rfl), (HS.mu 53 rfl), (HS.mu 54 rfl), trivial⟩⟩, _, rfl, ?_⟩
             clear hb
             refine dm_ 7 ?_
             refine dp_ 8 (fun _ => Run.extract rfl rfl rfl) ?_
             refine dp_ 9 (fun _ => Run.extract rfl rfl rfl) ?_
             refine dp_ 10 (fun _ => Run.extract rfl rfl rfl) ?_
             exact useWD X1469 ⟨b1644, b1684, A1686, t1470, c1687, A1688, c1689, A1690, t1481, c1691, A1692, t1646, c1693, A1694, c1695, v1699, v1701, v1703, t1696, I1709, I1707, bl1708, I1705, I1655, bl1656, I1653, bl1654, I1486, I1479, bl1480, I1477, rfl, H, (St.sel HS [4, 9, 0, 1, 2, 3, 5, 6, 7, 8, 10, 11, 12, 13, 14, 15, 16, 17, 18, 19, 20, 21, 22, 23, 24, 25, 26, 27, 28, 29, 30, 31, 32, 33, 34, 35, 36, 37, 38, 39, 40, 41, 42, 43, 44, 45, 46, 47, 48, 49, 50, 51, 52, 53, 54])⟩ ))))))
         · have HT_ := True.intro
           exact by (
           refine WDo.alloc (v := .agg #[sn, vi 0]) (cs := #[sn, vi 0]) 12 (w_none rfl) HS rfl (by kernel_rfl) rfl (fun b1711 w1712 hb1711 HS => ?_)
           refine ⟨⟨HS.nowO, HS.nowN.2.2, ⟨(HS.mu 44 rfl), (HS.mu 45 rfl), (HS.mu 46 rfl), trivial⟩⟩, ?_⟩
           obtain ⟨t1713, ha1714, H⟩ := bind_some H
           refine dc_ 5 (w_none rfl) func74 (laws_toCell.runs k (⟨x2.f0, x2.f1⟩ : S98) A2_0 c2_0 A2_1 c2_1 t1713 _ (HS.getO 3 rfl) hc2_0 (HS.getO 4 rfl) hc2_1 ha1714) ?_
           clear ha1714
           rintro _ w1715 ⟨v1716, bl1717, v1718, bl1719, rfl, hO_, hb⟩
           replace HS := HS.got hb hO_
           dsimp only [List.cons_append, List.nil_append] at HS
           exact by (
           clear hO_
           obtain ⟨I1720, bl1721, HS⟩ := HS.unseal (sz := 1) rfl
           replace HS := HS.front 2 rfl
           dsimp only [List.eraseIdx] at HS
           obtain ⟨I1722, bl1723, HS⟩ := HS.unseal (sz := 1) rfl
           refine ⟨⟨HS.nowO, HS.nowN.2.2, ⟨(HS.mu 48 rfl), (HS.mu 49 rfl), (HS.mu 50 rfl), trivial⟩⟩, _, rfl, ?_⟩
           clear hb
           obtain ⟨A1724, c1725, rfl⟩ := row_slice (HS.mu 9 rfl)
           exact by (
           obtain ⟨A1726, c1727, rfl⟩ := row_slice (HS.mu 7 rfl)
           obtain ⟨A1728, c1729, rfl⟩ := row_slice (HS.mu 6 rfl)
           obtain ⟨A1730, c1731, rfl⟩ := row_slice (HS.mu 2 rfl)
           obtain ⟨A1732, c1733, rfl⟩ := row_slice (HS.mu 0 rfl)
           obtain ⟨t1734, ha1735, H⟩ := bind_some H
           refine dc_ 6 (w_none rfl) func45 (impl_AddCell.runs k t1470 A1724 c1725 A1726 c1727 t1481 A1728 c1729 t1713 A1730 c1731 A1732 c1733 t1734.1 t1734.2.1 t1734.2.2 _ (row_C rfl (HS.mu 9 rfl) (HS.getN 1 rfl)) (row_le (HS.mu 9 rfl)) (row_C rfl (HS.mu 7 rfl) (HS.elsK 8 rfl)) (row_le (HS.mu 7 rfl)) (row_C rfl (HS.mu 6 rfl) (HS.getN 0 rfl)) (row_le (HS.mu 6 rfl)) (row_C rfl (HS.mu 2 rfl) (HS.elsK 3 rfl)) (row_le (HS.mu 2 rfl)) (row_C rfl (HS.mu 0 rfl) (HS.elsK 1 rfl)) (row_le (HS.mu 0 rfl)) ha1735) ?_
           clear ha1735
           rintro _ w1736 ⟨v1737, bl1738, v1739, bl1740, v1741, bl1742, rfl, hO_, hb⟩
           exact by (
           replace HS := HS.got hb hO_
           dsimp only [List.cons_append, List.nil_append] at HS
           clear hO_
           obtain ⟨I1743, bl1744, HS⟩ := HS.unseal (sz := 1) rfl
           replace HS := HS.freezeN 1 (p := (rF kI t1734.1.f0 I1743)) rfl (fun _ hP_ _ => RepsB.reps hP_)
           dsimp only [List.eraseIdx] at HS
           replace HS := HS.front 1 rfl
           dsimp only [List.eraseIdx] at HS
           exact by (
           obtain ⟨I1745, bl1746, HS⟩ := HS.unseal (sz := 1) rfl
           replace HS := HS.front 3 rfl
           dsimp only [List.eraseIdx] at HS
           obtain ⟨I1747, bl1748, HS⟩ := HS.unseal (sz := 1) rfl
           replace HS := HS.freezeN 1 (p := (rF kI t1734.2.1.f0 I1747)) rfl (fun _ hP_ _ => RepsB.reps hP_)
           dsimp only [List.eraseIdx] at HS
           refine ⟨⟨HS.nowO, HS.nowN.2.2.2.2, ⟨(HS.mu 52 rfl), (HS.mu 53 rfl), (HS.mu 54 rfl), trivial⟩⟩, _, rfl, ?_⟩
           clear hb
           exact by (
           refine dm_ 7 ?_
           refine dp_ 8 (fun _ => Run.extract rfl rfl rfl) ?_
           refine dp_ 9 (fun _ => Run.extract rfl rfl rfl) ?_
           refine dp_ 10 (fun _ => Run.extract rfl rfl rfl) ?_
           exact useWD X1469 ⟨b1644, b1711, A1724, t1470, c1725, A1726, c1727, A1728, t1481, c1729, A1730, t1713, c1731, A1732, c1733, v1737, v1739, v1741, t1734, I1747, I1745, bl1746, I1743, I1722, bl1723, I1720, bl1721, I1486, I1479, bl1480, I1477, rfl, H, (St.sel HS [8, 9, 0, 1, 2, 3, 4, 5, 6, 7, 10, 11, 12, 13, 14, 15, 16, 17, 18, 19, 20, 21, 22, 23, 24, 25, 26, 27, 28, 29, 30, 31, 32, 33, 34, 35, 36, 37, 38, 39, 40, 41, 42, 43, 44, 45, 46, 47, 48, 49, 50, 51, 52, 53, 54])⟩ ))))))
       · have HT_ := True.intro
         refine WDo.alloc (v := .agg #[sn, vi 0]) (cs := #[sn, vi 0]) 12 (w_none rfl) HS rfl (by kernel_rfl) rfl (fun b1749 w1750 hb1749 HS => ?_)
         refine ⟨⟨HS.nowO, HS.nowN.2.2, ⟨(HS.mu 43 rfl), (HS.mu 44 rfl), (HS.mu 45 rfl), trivial⟩⟩, ?_⟩
         exact by (
         refine two__ 5 11 ?_ ?_
         · have HT_ := True.intro
           obtain ⟨t1751, ha1752, H⟩ := bind_some H
           refine dco_ 5 (w_none rfl) func74 (laws_toCell.runs k (⟨x2.f0, x2.f1⟩ : S98) A2_0 c2_0 A2_1 c2_1 t1751 _ (HS.getO 3 rfl) hc2_0 (HS.getO 4 rfl) hc2_1 ha1752) ?_
           clear ha1752
           rintro _ w1753 ⟨v1754, bl1755, v1756, bl1757, rfl, hO_, hb⟩
           replace HS := HS.got hb hO_
           dsimp only [List.cons_append, List.nil_append] at HS
           exact by (
           clear hO_
           obtain ⟨I1758, bl1759, HS⟩ := HS.unseal (sz := 1) rfl
           replace HS := HS.front 2 rfl
           dsimp only [List.eraseIdx] at HS
           obtain ⟨I1760, bl1761, HS⟩ := HS.unseal (sz := 1) rfl
           refine ⟨⟨HS.nowO, HS.nowN.2.2, ⟨(HS.mu 47 rfl), (HS.mu 48 rfl), (HS.mu 49 rfl), trivial⟩⟩, _, rfl, ?_⟩
           clear hb
           refine two__ 6 11 ?_ ?_
           · have HT_ := True.intro
             exact by (
             obtain ⟨A1762, c1763, rfl⟩ := row_slice (HS.mu 8 rfl)
             obtain ⟨A1764, c1765, rfl⟩ := row_slice (HS.mu 6 rfl)
             obtain ⟨A1766, c1767, rfl⟩ := row_slice (HS.mu 5 rfl)
             obtain ⟨A1768, c1769, rfl⟩ := row_slice (HS.mu 2 rfl)
             obtain ⟨A1770, c1771, rfl⟩ := row_slice (HS.mu 0 rfl)
             obtain ⟨t1772, ha1773, H⟩ := bind_some H
             refine dco_ 6 (w_none rfl) func45 (impl_AddCell.runs k t1470 A1762 c1763 A1764 c1765 t1481 A1766 c1767 t1751 A1768 c1769 A1770 c1771 t1772.1 t1772.2.1 t1772.2.2 _ (row_C rfl (HS.mu 8 rfl) (HS.getN 1 rfl)) (row_le (HS.mu 8 rfl)) (row_C rfl (HS.mu 6 rfl) (HS.elsK 7 rfl)) (row_le (HS.mu 6 rfl)) (row_C rfl (HS.mu 5 rfl) (HS.getN 0 rfl)) (row_le (HS.mu 5 rfl)) (row_C rfl (HS.mu 2 rfl) (HS.elsK 3 rfl)) (row_le (HS.mu 2 rfl)) (row_C rfl (HS.mu 0 rfl) (HS.elsK 1 rfl)) (row_le (HS.mu 0 rfl)) ha1773) ?_
             clear ha1773
             exact by (
             rintro _ w1774 ⟨v1775, bl1776, v1777, bl1778, v1779, bl1780, rfl, hO_, hb⟩
             replace HS := HS.got hb hO_
             dsimp only [List.cons_append, List.nil_append] at HS
             clear hO_
             obtain ⟨I1781, bl1782, HS⟩ := HS.unseal (sz := 1) rfl
             replace HS := HS.freezeN 1 (p := (rF kI t1772.1.f0 I1781)) rfl (fun _ hP_ _ => RepsB.reps hP_)
             dsimp only [List.eraseIdx] at HS
             replace HS := HS.front 1 rfl
             exact by (
             dsimp only [List.eraseIdx] at HS
             obtain ⟨I1783, bl1784, HS⟩ := HS.unseal (sz := 1) rfl
             replace HS := HS.front 3 rfl
             dsimp only [List.eraseIdx] at HS
             obtain ⟨I1785, bl1786, HS⟩ := HS.unseal (sz := 1) rfl
             replace HS := HS.freezeN 1 (p := (rF kI t1772.2.1.f0 I1785)) rfl (fun _ hP_ _ => RepsB.reps hP_)
             dsimp only [List.eraseIdx] at HS
             refine ⟨⟨HS.nowO, HS.nowN.2.2.2.2, ⟨(HS.mu 51 rfl), (HS.mu 52 rfl), (HS.mu 53 rfl), trivial⟩⟩, _, rfl, ?_⟩
             exact by (
             clear hb
             refine dm_ 7 ?_
             refine dp_ 8 (fun _ => Run.extract rfl rfl rfl) ?_
             refine dp_ 9 (fun _ => Run.extract rfl rfl rfl) ?_
             refine dp_ 10 (fun _ => Run.extract rfl rfl rfl) ?_
             refine WD.alloc (v := .agg #[sn, sn]) (cs := #[sn, sn]) 11 (w_none rfl) HS rfl (by kernel_rfl) rfl (fun b1787 w1788 hb1787 HS => ?_)
             refine ⟨⟨HS.nowO, HS.nowN.2.2.2.2, ⟨(HS.mu 52 rfl), (HS.mu 53 rfl), (HS.mu 54 rfl), trivial⟩⟩, ?_⟩
             exact useWD X1469 ⟨b1787, b1749, A1762, t1470, c1763, A1764, c1765, A1766, t1481, c1767, A1768, t1751, c1769, A1770, c1771, v1775, v1777, v1779, t1772, I1785, I1783, bl1784, I1781, I1760, bl1761, I1758, bl1759, I1486, I1479, bl1480, I1477, rfl, H, (St.sel HS [9, 0, 1, 2, 3, 4, 5, 6, 7, 8, 10, 11, 12, 13, 14, 15, 16, 17, 18, 19, 20, 21, 22, 23, 24, 25, 26, 27, 28, 29, 30, 31, 32, 33, 34, 35, 36, 37, 38, 39, 40, 41, 42, 43, 44, 45, 46, 47, 48, 49, 50, 51, 52, 53, 54])⟩ ))))
           · have HT_ := True.intro
             exact by (
             refine WDo.alloc (v := .agg #[sn, sn]) (cs := #[sn, sn]) 11 (w_none rfl) HS rfl (by kernel_rfl) rfl (fun b1789 w1790 hb1789 HS => ?_)
             refine ⟨⟨HS.nowO, HS.nowN.2.2, ⟨(HS.mu 48 rfl), (HS.mu 49 rfl), (HS.mu 50 rfl), trivial⟩⟩, ?_⟩
             obtain ⟨A1791, c1792, rfl⟩ := row_slice (HS.mu 9 rfl)
             obtain ⟨A1793, c1794, rfl⟩ := row_slice (HS.mu 7 rfl)
             obtain ⟨A1795, c1796, rfl⟩ := row_slice (HS.mu 6 rfl)
             obtain ⟨A1797, c1798, rfl⟩ := row_slice (HS.mu 3 rfl)
             obtain ⟨A1799, c1800, rfl⟩ := row_slice (HS.mu 1 rfl)
             obtain ⟨t1801, ha1802, H⟩ := bind_some H
             exact by (
             refine dc_ 6 (w_none rfl) func45 (impl_AddCell.runs k t1470 A1791 c1792 A1793 c1794 t1481 A1795 c1796 t1751 A1797 c1798 A1799 c1800 t1801.1 t1801.2.1 t1801.2.2 _ (row_C rfl (HS.mu 9 rfl) (HS.getN 1 rfl)) (row_le (HS.mu 9 rfl)) (row_C rfl (HS.mu 7 rfl) (HS.elsK 8 rfl)) (row_le (HS.mu 7 rfl)) (row_C rfl (HS.mu 6 rfl) (HS.getN 0 rfl)) (row_le (HS.mu 6 rfl)) (row_C rfl (HS.mu 3 rfl) (HS.elsK 4 rfl)) (row_le (HS.mu 3 rfl)) (row_C rfl (HS.mu 1 rfl) (HS.elsK 2 rfl)) (row_le (HS.mu 1 rfl)) ha1802) ?_
             clear ha1802
             rintro _ w1803 ⟨v1804, bl1805, v1806, bl1807, v1808, bl1809, rfl, hO_, hb⟩
             replace HS := HS.got hb hO_
             dsimp only [List.cons_append, List.nil_append] at HS
             clear hO_
             obtain ⟨I1810, bl1811, HS⟩ := HS.unseal (sz := 1) rfl
             replace HS := HS.freezeN 1 (p := (rF kI t1801.1.f0 I1810)) rfl (fun _ hP_ _ => RepsB.reps hP_)
             exact by (
             dsimp only [List.eraseIdx] at HS
             replace HS := HS.front 1 rfl
             dsimp only [List.eraseIdx] at HS
             obtain ⟨I1812, bl1813, HS⟩ := HS.unseal (sz := 1) rfl
             replace HS := HS.front 3 rfl
             dsimp only [List.eraseIdx] at HS
             obtain ⟨I1814, bl1815, HS⟩ := HS.unseal (sz := 1) rfl
             replace HS := HS.freezeN 1 (p := (rF kI t1801.2.1.f0 I1814)) rfl (fun _ hP_ _ => RepsB.reps hP_)
             exact by (
             dsimp only [List.eraseIdx] at HS
             refine ⟨⟨HS.nowO, HS.nowN.2.2.2.2, ⟨(HS.mu 52 rfl), (HS.mu 53 rfl), (HS.mu 54 rfl), trivial⟩⟩, _, rfl, ?_⟩
             clear hb
             refine dm_ 7 ?_
             refine dp_ 8 (fun _ => Run.extract rfl rfl rfl) ?_
             refine dp_ 9 (fun _ => Run.extract rfl rfl rfl) ?_
             refine dp_ 10 (fun _ => Run.extract rfl rfl rfl) ?_
             exact useWD X1469 ⟨b1789, b1749, A1791, t1470, c1792, A1793, c1794, A1795, t1481, c1796, A1797, t1751, c1798, A1799, c1800, v1804, v1806, v1808, t1801, I1814, I1812, bl1813, I1810, I1760, bl1761, I1758, bl1759, I1486, I1479, bl1480, I1477, rfl, H, (St.sel HS [9, 4, 0, 1, 2, 3, 5, 6, 7, 8, 10, 11, 12, 13, 14, 15, 16, 17, 18, 19, 20, 21, 22, 23, 24, 25, 26, 27, 28, 29, 30, 31, 32, 33, 34, 35, 36, 37, 38, 39, 40, 41, 42, 43, 44, 45, 46, 47, 48, 49, 50, 51, 52, 53, 54])⟩ )))))
         · have HT_ := True.intro
           exact by (
           refine WDo.alloc (v := .agg #[sn, sn]) (cs := #[sn, sn]) 11 (w_none rfl) HS rfl (by kernel_rfl) rfl (fun b1816 w1817 hb1816 HS => ?_)
           refine ⟨⟨HS.nowO, HS.nowN.2.2, ⟨(HS.mu 44 rfl), (HS.mu 45 rfl), (HS.mu 46 rfl), trivial⟩⟩, ?_⟩
           obtain ⟨t1818, ha1819, H⟩ := bind_some H
           refine dc_ 5 (w_none rfl) func74 (laws_toCell.runs k (⟨x2.f0, x2.f1⟩ : S98) A2_0 c2_0 A2_1 c2_1 t1818 _ (HS.getO 3 rfl) hc2_0 (HS.getO 4 rfl) hc2_1 ha1819) ?_
           clear ha1819
           rintro _ w1820 ⟨v1821, bl1822, v1823, bl1824, rfl, hO_, hb⟩
           replace HS := HS.got hb hO_
           dsimp only [List.cons_append, List.nil_append] at HS
           exact by (
           clear hO_
           obtain ⟨I1825, bl1826, HS⟩ := HS.unseal (sz := 1) rfl
           replace HS := HS.front 2 rfl
           dsimp only [List.eraseIdx] at HS
           obtain ⟨I1827, bl1828, HS⟩ := HS.unseal (sz := 1) rfl
           refine ⟨⟨HS.nowO, HS.nowN.2.2, ⟨(HS.mu 48 rfl), (HS.mu 49 rfl), (HS.mu 50 rfl), trivial⟩⟩, _, rfl, ?_⟩
           clear hb
           obtain ⟨A1829, c1830, rfl⟩ := row_slice (HS.mu 9 rfl)
           exact by (
           obtain ⟨A1831, c1832, rfl⟩ := row_slice (HS.mu 7 rfl)
           obtain ⟨A1833, c1834, rfl⟩ := row_slice (HS.mu 6 rfl)
           obtain ⟨A1835, c1836, rfl⟩ := row_slice (HS.mu 2 rfl)
           obtain ⟨A1837, c1838, rfl⟩ := row_slice (HS.mu 0 rfl)
           obtain ⟨t1839, ha1840, H⟩ := bind_some H
           refine dc_ 6 (w_none rfl) func45 (impl_AddCell.runs k t1470 A1829 c1830 A1831 c1832 t1481 A1833 c1834 t1818 A1835 c1836 A1837 c1838 t1839.1 t1839.2.1 t1839.2.2 _ (row_C rfl (HS.mu 9 rfl) (HS.getN 1 rfl)) (row_le (HS.mu 9 rfl)) (row_C rfl (HS.mu 7 rfl) (HS.elsK 8 rfl)) (row_le (HS.mu 7 rfl)) (row_C rfl (HS.mu 6 rfl) (HS.getN 0 rfl)) (row_le (HS.mu 6 rfl)) (row_C rfl (HS.mu 2 rfl) (HS.elsK 3 rfl)) (row_le (HS.mu 2 rfl)) (row_C rfl (HS.mu 0 rfl) (HS.elsK 1 rfl)) (row_le (HS.mu 0 rfl)) ha1840) ?_
           clear ha1840
           rintro _ w1841 ⟨v1842, bl1843, v1844, bl1845, v1846, bl1847, rfl, hO_, hb⟩
           exact by (
           replace HS := HS.got hb hO_
           dsimp only [List.cons_append, List.nil_append] at HS
           clear hO_
           obtain ⟨I1848, bl1849, HS⟩ := HS.unseal (sz := 1) rfl
           replace HS := HS.freezeN 1 (p := (rF kI t1839.1.f0 I1848)) rfl (fun _ hP_ _ => RepsB.reps hP_)
           dsimp only [List.eraseIdx] at HS
           replace HS := HS.front 1 rfl
           dsimp only [List.eraseIdx] at HS
           exact by (
           obtain ⟨I1850, bl1851, HS⟩ := HS.unseal (sz := 1) rfl
           replace HS := HS.front 3 rfl
           dsimp only [List.eraseIdx] at HS
           obtain ⟨I1852, bl1853, HS⟩ := HS.unseal (sz := 1) rfl
           replace HS := HS.freezeN 1 (p := (rF kI t1839.2.1.f0 I1852)) rfl (fun _ hP_ _ => RepsB.reps hP_)
           dsimp only [List.eraseIdx] at HS
           refine ⟨⟨HS.nowO, HS.nowN.2.2.2.2, ⟨(HS.mu 52 rfl), (HS.mu 53 rfl), (HS.mu 54 rfl), trivial⟩⟩, _, rfl, ?_⟩
           clear hb
           exact by (
           refine dm_ 7 ?_
           refine dp_ 8 (fun _ => Run.extract rfl rfl rfl) ?_
           refine dp_ 9 (fun _ => Run.extract rfl rfl rfl) ?_
           refine dp_ 10 (fun _ => Run.extract rfl rfl rfl) ?_
           exact useWD X1469 ⟨b1816, b1749, A1829, t1470, c1830, A1831, c1832, A1833, t1481, c1834, A1835, t1818, c1836, A1837, c1838, v1842, v1844, v1846, t1839, I1852, I1850, bl1851, I1848, I1827, bl1828, I1825, bl1826, I1486, I1479, bl1480, I1477, rfl, H, (St.sel HS [9, 8, 0, 1, 2, 3, 4, 5, 6, 7, 10, 11, 12, 13, 14, 15, 16, 17, 18, 19, 20, 21, 22, 23, 24, 25, 26, 27, 28, 29, 30, 31, 32, 33, 34, 35, 36, 37, 38, 39, 40, 41, 42, 43, 44, 45, 46, 47, 48, 49, 50, 51, 52, 53, 54])⟩ ))))))))
     · have HT_ := True.intro
       refine WDo.alloc (v := .agg #[sn, sn]) (cs := #[sn, sn]) 11 (w_none rfl) HS rfl (by kernel_rfl) rfl (fun b1854 w1855 hb1854 HS => ?_)
       refine ⟨⟨HS.nowO, HS.nowN.2, ⟨(HS.mu 42 rfl), (HS.mu 43 rfl), (HS.mu 44 rfl), trivial⟩⟩, ?_⟩
       exact by (
       refine two__ 3 12 ?_ ?_
       · have HT_ := True.intro
         obtain ⟨t1856, ha1857, H⟩ := bind_some H
         refine dco_ 3 (w_none rfl) func61 (laws_toTable.runs k (⟨x1.f0, x1.f1⟩ : S85) A1_0 c1_0 t1856 _ (HS.getO 2 rfl) hc1_0 ha1857) ?_
         clear ha1857
         rintro _ w1858 ⟨v1859, bl1860, rfl, hO_, hb⟩
         replace HS := HS.got hb hO_
         dsimp only [List.cons_append, List.nil_append] at HS
         exact by (
         clear hO_
         obtain ⟨I1861, bl1862, HS⟩ := HS.unseal (sz := 1) rfl
         replace HS := HS.freezeN 1 (p := (rF kI t1856.f0 I1861)) rfl (fun _ hP_ _ => RepsB.reps hP_)
         dsimp only [List.eraseIdx] at HS
         refine ⟨⟨HS.nowO, HS.nowN.2.2, ⟨(HS.mu 43 rfl), (HS.mu 44 rfl), (HS.mu 45 rfl), trivial⟩⟩, _, rfl, ?_⟩
         clear hb
         refine two__ 5 12 ?_ ?_
         · have HT_ := True.intro
           exact by (
           obtain ⟨t1863, ha1864, H⟩ := bind_some H
           refine dco_ 5 (w_none rfl) func74 (laws_toCell.runs k (⟨x2.f0, x2.f1⟩ : S98) A2_0 c2_0 A2_1 c2_1 t1863 _ (HS.getO 3 rfl) hc2_0 (HS.getO 4 rfl) hc2_1 ha1864) ?_
           clear ha1864
           rintro _ w1865 ⟨v1866, bl1867, v1868, bl1869, rfl, hO_, hb⟩
           replace HS := HS.got hb hO_
           dsimp only [List.cons_append, List.nil_append] at HS
           clear hO_
           obtain ⟨I1870, bl1871, HS⟩ := HS.unseal (sz := 1) rfl
           exact by (
           replace HS := HS.front 2 rfl
           dsimp only [List.eraseIdx] at HS
           obtain ⟨I1872, bl1873, HS⟩ := HS.unseal (sz := 1) rfl
           refine ⟨⟨HS.nowO, HS.nowN.2.2, ⟨(HS.mu 47 rfl), (HS.mu 48 rfl), (HS.mu 49 rfl), trivial⟩⟩, _, rfl, ?_⟩
           clear hb
           refine two__ 6 12 ?_ ?_
           · have HT_ := True.intro
             obtain ⟨A1874, c1875, rfl⟩ := row_slice (HS.mu 8 rfl)
             exact by (
             obtain ⟨A1876, c1877, rfl⟩ := row_slice (HS.mu 6 rfl)
             obtain ⟨A1878, c1879, rfl⟩ := row_slice (HS.mu 4 rfl)
             obtain ⟨A1880, c1881, rfl⟩ := row_slice (HS.mu 2 rfl)
             obtain ⟨A1882, c1883, rfl⟩ := row_slice (HS.mu 0 rfl)
             obtain ⟨t1884, ha1885, H⟩ := bind_some H
             refine dco_ 6 (w_none rfl) func45 (impl_AddCell.runs k t1470 A1874 c1875 A1876 c1877 t1856 A1878 c1879 t1863 A1880 c1881 A1882 c1883 t1884.1 t1884.2.1 t1884.2.2 _ (row_C rfl (HS.mu 8 rfl) (HS.getN 1 rfl)) (row_le (HS.mu 8 rfl)) (row_C rfl (HS.mu 6 rfl) (HS.elsK 7 rfl)) (row_le (HS.mu 6 rfl)) (row_C rfl (HS.mu 4 rfl) (HS.getN 0 rfl)) (row_le (HS.mu 4 rfl)) (row_C rfl (HS.mu 2 rfl) (HS.elsK 3 rfl)) (row_le (HS.mu 2 rfl)) (row_C rfl (HS.mu 0 rfl) (HS.elsK 1 rfl)) (row_le (HS.mu 0 rfl)) ha1885) ?_
             clear ha1885
             rintro _ w1886 ⟨v1887, bl1888, v1889, bl1890, v1891, bl1892, rfl, hO_, hb⟩
             exact by (
             replace HS := HS.got hb hO_
             dsimp only [List.cons_append, List.nil_append] at HS
             clear hO_
             obtain ⟨I1893, bl1894, HS⟩ := HS.unseal (sz := 1) rfl
             replace HS := HS.freezeN 1 (p := (rF kI t1884.1.f0 I1893)) rfl (fun _ hP_ _ => RepsB.reps hP_)
             dsimp only [List.eraseIdx] at HS
             replace HS := HS.front 1 rfl
             dsimp only [List.eraseIdx] at HS
             exact by (
             obtain ⟨I1895, bl1896, HS⟩ := HS.unseal (sz := 1) rfl
             replace HS := HS.front 3 rfl
             dsimp only [List.eraseIdx] at HS
             obtain ⟨I1897, bl1898, HS⟩ := HS.unseal (sz := 1) rfl
             replace HS := HS.freezeN 1 (p := (rF kI t1884.2.1.f0 I1897)) rfl (fun _ hP_ _ => RepsB.reps hP_)
             dsimp only [List.eraseIdx] at HS
             refine ⟨⟨HS.nowO, HS.nowN.2.2.2.2, ⟨(HS.mu 51 rfl), (HS.mu 52 rfl), (HS.mu 53 rfl), trivial⟩⟩, _, rfl, ?_⟩
             clear hb
             exact by (
             refine dm_ 7 ?_
             refine dp_ 8 (fun _ => Run.extract rfl rfl rfl) ?_
             refine dp_ 9 (fun _ => Run.extract rfl rfl rfl) ?_
             refine dp_ 10 (fun _ => Run.extract rfl rfl rfl) ?_
             refine WD.alloc (v := .agg #[sn, vi 0]) (cs := #[sn, vi 0]) 12 (w_none rfl) HS rfl (by kernel_rfl) rfl (fun b1899 w1900 hb1899 HS => ?_)
             refine ⟨⟨HS.nowO, HS.nowN.2.2.2.2, ⟨(HS.mu 52 rfl), (HS.mu 53 rfl), (HS.mu 54 rfl), trivial⟩⟩, ?_⟩
             exact useWD X1469 ⟨b1854, b1899, A1874, t1470, c1875, A1876, c1877, A1878, t1856, c1879, A1880, t1863, c1881, A1882, c1883, v1887, v1889, v1891, t1884, I1897, I1895, bl1896, I1893, I1872, bl1873, I1870, bl1871, I1861, I1479, bl1480, I1477, rfl, H, (St.sel HS [0, 10, 1, 2, 3, 4, 5, 6, 7, 8, 9, 11, 12, 13, 14, 15, 16, 17, 18, 19, 20, 21, 22, 23, 24, 25, 26, 27, 28, 29, 30, 31, 32, 33, 34, 35, 36, 37, 38, 39, 40, 41, 42, 43, 44, 45, 46, 47, 48, 49, 50, 51, 52, 53, 54])⟩ ))))
           · have HT_ := True.intro
             exact by (
             refine WDo.alloc (v := .agg #[sn, vi 0]) (cs := #[sn, vi 0]) 12 (w_none rfl) HS rfl (by kernel_rfl) rfl (fun b1901 w1902 hb1901 HS => ?_)
             refine ⟨⟨HS.nowO, HS.nowN.2.2, ⟨(HS.mu 48 rfl), (HS.mu 49 rfl), (HS.mu 50 rfl), trivial⟩⟩, ?_⟩
             obtain ⟨A1903, c1904, rfl⟩ := row_slice (HS.mu 9 rfl)
             obtain ⟨A1905, c1906, rfl⟩ := row_slice (HS.mu 7 rfl)
             obtain ⟨A1907, c1908, rfl⟩ := row_slice (HS.mu 5 rfl)
             obtain ⟨A1909, c1910, rfl⟩ := row_slice (HS.mu 3 rfl)
             obtain ⟨A1911, c1912, rfl⟩ := row_slice (HS.mu 1 rfl)
             obtain ⟨t1913, ha1914, H⟩ := bind_some H
             exact by (
             refine dc_ 6 (w_none rfl) func45 (impl_AddCell.runs k t1470 A1903 c1904 A1905 c1906 t1856 A1907 c1908 t1863 A1909 c1910 A1911 c1912 t1913.1 t1913.2.1 t1913.2.2 _ (row_C rfl (HS.mu 9 rfl) (HS.getN 1 rfl)) (row_le (HS.mu 9 rfl)) (row_C rfl (HS.mu 7 rfl) (HS.elsK 8 rfl)) (row_le (HS.mu 7 rfl)) (row_C rfl (HS.mu 5 rfl) (HS.getN 0 rfl)) (row_le (HS.mu 5 rfl)) (row_C rfl (HS.mu 3 rfl) (HS.elsK 4 rfl)) (row_le (HS.mu 3 rfl)) (row_C rfl (HS.mu 1 rfl) (HS.elsK 2 rfl)) (row_le (HS.mu 1 rfl)) ha1914) ?_
             clear ha1914
             rintro _ w1915 ⟨v1916, bl1917, v1918, bl1919, v1920, bl1921, rfl, hO_, hb⟩
             replace HS := HS.got hb hO_
             dsimp only [List.cons_append, List.nil_append] at HS
             clear hO_
             obtain ⟨I1922, bl1923, HS⟩ := HS.unseal (sz := 1) rfl
             replace HS := HS.freezeN 1 (p := (rF kI t1913.1.f0 I1922)) rfl (fun _ hP_ _ => RepsB.reps hP_)
             exact by (
             dsimp only [List.eraseIdx] at HS
             replace HS := HS.front 1 rfl
             dsimp only [List.eraseIdx] at HS
             obtain ⟨I1924, bl1925, HS⟩ := HS.unseal (sz := 1) rfl
             replace HS := HS.front 3 rfl
             dsimp only [List.eraseIdx] at HS
             obtain ⟨I1926, bl1927, HS⟩ := HS.unseal (sz := 1) rfl
             replace HS := HS.freezeN 1 (p := (rF kI t1913.2.1.f0 I1926)) rfl (fun _ hP_ _ => RepsB.reps hP_)
             exact by (
             dsimp only [List.eraseIdx] at HS
             refine ⟨⟨HS.nowO, HS.nowN.2.2.2.2, ⟨(HS.mu 52 rfl), (HS.mu 53 rfl), (HS.mu 54 rfl), trivial⟩⟩, _, rfl, ?_⟩
             clear hb
             refine dm_ 7 ?_
             refine dp_ 8 (fun _ => Run.extract rfl rfl rfl) ?_
             refine dp_ 9 (fun _ => Run.extract rfl rfl rfl) ?_
             refine dp_ 10 (fun _ => Run.extract rfl rfl rfl) ?_
             exact useWD X1469 ⟨b1854, b1901, A1903, t1470, c1904, A1905, c1906, A1907, t1856, c1908, A1909, t1863, c1910, A1911, c1912, v1916, v1918, v1920, t1913, I1926, I1924, bl1925, I1922, I1872, bl1873, I1870, bl1871, I1861, I1479, bl1480, I1477, rfl, H, (St.sel HS [4, 10, 0, 1, 2, 3, 5, 6, 7, 8, 9, 11, 12, 13, 14, 15, 16, 17, 18, 19, 20, 21, 22, 23, 24, 25, 26, 27, 28, 29, 30, 31, 32, 33, 34, 35, 36, 37, 38, 39, 40, 41, 42, 43, 44, 45, 46, 47, 48, 49, 50, 51, 52, 53, 54])⟩ ))))))
         · have HT_ := True.intro
           exact by (
           refine WDo.alloc (v := .agg #[sn, vi 0]) (cs := #[sn, vi 0]) 12 (w_none rfl) HS rfl (by kernel_rfl) rfl (fun b1928 w1929 hb1928 HS => ?_)
           refine ⟨⟨HS.nowO, HS.nowN.2.2, ⟨(HS.mu 44 rfl), (HS.mu 45 rfl), (HS.mu 46 rfl), trivial⟩⟩, ?_⟩
           obtain ⟨t1930, ha1931, H⟩ := bind_some H
           refine dc_ 5 (w_none rfl) func74 (laws_toCell.runs k (⟨x2.f0, x2.f1⟩ : S98) A2_0 c2_0 A2_1 c2_1 t1930 _ (HS.getO 3 rfl) hc2_0 (HS.getO 4 rfl) hc2_1 ha1931) ?_
           clear ha1931
           rintro _ w1932 ⟨v1933, bl1934, v1935, bl1936, rfl, hO_, hb⟩
           replace HS := HS.got hb hO_
           dsimp only [List.cons_append, List.nil_append] at HS
           exact by (
           clear hO_
           obtain ⟨I1937, bl1938, HS⟩ := HS.unseal (sz := 1) rfl
           replace HS := HS.front 2 rfl
           dsimp only [List.eraseIdx] at HS
           obtain ⟨I1939, bl1940, HS⟩ := HS.unseal (sz := 1) rfl
           refine ⟨⟨HS.nowO, HS.nowN.2.2, ⟨(HS.mu 48 rfl), (HS.mu 49 rfl), (HS.mu 50 rfl), trivial⟩⟩, _, rfl, ?_⟩
           clear hb
           obtain ⟨A1941, c1942, rfl⟩ := row_slice (HS.mu 9 rfl)
           exact by (
           obtain ⟨A1943, c1944, rfl⟩ := row_slice (HS.mu 7 rfl)
           obtain ⟨A1945, c1946, rfl⟩ := row_slice (HS.mu 5 rfl)
           obtain ⟨A1947, c1948, rfl⟩ := row_slice (HS.mu 2 rfl)
           obtain ⟨A1949, c1950, rfl⟩ := row_slice (HS.mu 0 rfl)
           obtain ⟨t1951, ha1952, H⟩ := bind_some H
           refine dc_ 6 (w_none rfl) func45 (impl_AddCell.runs k t1470 A1941 c1942 A1943 c1944 t1856 A1945 c1946 t1930 A1947 c1948 A1949 c1950 t1951.1 t1951.2.1 t1951.2.2 _ (row_C rfl (HS.mu 9 rfl) (HS.getN 1 rfl)) (row_le (HS.mu 9 rfl)) (row_C rfl (HS.mu 7 rfl) (HS.elsK 8 rfl)) (row_le (HS.mu 7 rfl)) (row_C rfl (HS.mu 5 rfl) (HS.getN 0 rfl)) (row_le (HS.mu 5 rfl)) (row_C rfl (HS.mu 2 rfl) (HS.elsK 3 rfl)) (row_le (HS.mu 2 rfl)) (row_C rfl (HS.mu 0 rfl) (HS.elsK 1 rfl)) (row_le (HS.mu 0 rfl)) ha1952) ?_
           clear ha1952
           rintro _ w1953 ⟨v1954, bl1955, v1956, bl1957, v1958, bl1959, rfl, hO_, hb⟩
           exact by (
           replace HS := HS.got hb hO_
           dsimp only [List.cons_append, List.nil_append] at HS
           clear hO_
           obtain ⟨I1960, bl1961, HS⟩ := HS.unseal (sz := 1) rfl
           replace HS := HS.freezeN 1 (p := (rF kI t1951.1.f0 I1960)) rfl (fun _ hP_ _ => RepsB.reps hP_)
           dsimp only [List.eraseIdx] at HS
           replace HS := HS.front 1 rfl
           dsimp only [List.eraseIdx] at HS
           exact by (
           obtain ⟨I1962, bl1963, HS⟩ := HS.unseal (sz := 1) rfl
           replace HS := HS.front 3 rfl
           dsimp only [List.eraseIdx] at HS
           obtain ⟨I1964, bl1965, HS⟩ := HS.unseal (sz := 1) rfl
           replace HS := HS.freezeN 1 (p := (rF kI t1951.2.1.f0 I1964)) rfl (fun _ hP_ _ => RepsB.reps hP_)
           dsimp only [List.eraseIdx] at HS
           refine ⟨⟨HS.nowO, HS.nowN.2.2.2.2, ⟨(HS.mu 52 rfl), (HS.mu 53 rfl), (HS.mu 54 rfl), trivial⟩⟩, _, rfl, ?_⟩
           clear hb
           exact by (
           refine dm_ 7 ?_
           refine dp_ 8 (fun _ => Run.extract rfl rfl rfl) ?_
           refine dp_ 9 (fun _ => Run.extract rfl rfl rfl) ?_
           refine dp_ 10 (fun _ => Run.extract rfl rfl rfl) ?_
           exact useWD X1469 ⟨b1854, b1928, A1941, t1470, c1942, A1943, c1944, A1945, t1856, c1946, A1947, t1930, c1948, A1949, c1950, v1954, v1956, v1958, t1951, I1964, I1962, bl1963, I1960, I1939, bl1940, I1937, bl1938, I1861, I1479, bl1480, I1477, rfl, H, (St.sel HS [8, 10, 0, 1, 2, 3, 4, 5, 6, 7, 9, 11, 12, 13, 14, 15, 16, 17, 18, 19, 20, 21, 22, 23, 24, 25, 26, 27, 28, 29, 30, 31, 32, 33, 34, 35, 36, 37, 38, 39, 40, 41, 42, 43, 44, 45, 46, 47, 48, 49, 50, 51, 52, 53, 54])⟩ )))))))
       · have HT_ := True.intro
         refine WDo.alloc (v := .agg #[sn, vi 0]) (cs := #[sn, vi 0]) 12 (w_none rfl) HS rfl (by kernel_rfl) rfl (fun b1966 w1967 hb1966 HS => ?_)
         refine ⟨⟨HS.nowO, HS.nowN.2, ⟨(HS.mu 43 rfl), (HS.mu 44 rfl), (HS.mu 45 rfl), trivial⟩⟩, ?_⟩
         exact by (
         obtain ⟨t1968, ha1969, H⟩ := bind_some H
         refine dc_ 3 (w_none rfl) func61 (laws_toTable.runs k (⟨x1.f0, x1.f1⟩ : S85) A1_0 c1_0 t1968 _ (HS.getO 2 rfl) hc1_0 ha1969) ?_
         clear ha1969
         rintro _ w1970 ⟨v1971, bl1972, rfl, hO_, hb⟩
         replace HS := HS.got hb hO_
         dsimp only [List.cons_append, List.nil_append] at HS
         clear hO_
         obtain ⟨I1973, bl1974, HS⟩ := HS.unseal (sz := 1) rfl
         exact by (
         replace HS := HS.freezeN 1 (p := (rF kI t1968.f0 I1973)) rfl (fun _ hP_ _ => RepsB.reps hP_)
         dsimp only [List.eraseIdx] at HS
         refine ⟨⟨HS.nowO, HS.nowN.2.2, ⟨(HS.mu 44 rfl), (HS.mu 45 rfl), (HS.mu 46 rfl), trivial⟩⟩, _, rfl, ?_⟩
         clear hb
         obtain ⟨t1975, ha1976, H⟩ := bind_some H
         refine dc_ 5 (w_none rfl) func74 (laws_toCell.runs k (⟨x2.f0, x2.f1⟩ : S98) A2_0 c2_0 A2_1 c2_1 t1975 _ (HS.getO 3 rfl) hc2_0 (HS.getO 4 rfl) hc2_1 ha1976) ?_
         clear ha1976
         rintro _ w1977 ⟨v1978, bl1979, v1980, bl1981, rfl, hO_, hb⟩
         exact by (
         replace HS := HS.got hb hO_
         dsimp only [List.cons_append, List.nil_append] at HS
         clear hO_
         obtain ⟨I1982, bl1983, HS⟩ := HS.unseal (sz := 1) rfl
         replace HS := HS.front 2 rfl
         dsimp only [List.eraseIdx] at HS
         obtain ⟨I1984, bl1985, HS⟩ := HS.unseal (sz := 1) rfl
         refine ⟨⟨HS.nowO, HS.nowN.2.2, ⟨(HS.mu 48 rfl), (HS.mu 49 rfl), (HS.mu 50 rfl), trivial⟩⟩, _, rfl, ?_⟩
         exact by (
         clear hb
         obtain ⟨A1986, c1987, rfl⟩ := row_slice (HS.mu 9 rfl)
         obtain ⟨A1988, c1989, rfl⟩ := row_slice (HS.mu 7 rfl)
         obtain ⟨A1990, c1991, rfl⟩ := row_slice (HS.mu 4 rfl)
         obtain ⟨A1992, c1993, rfl⟩ := row_slice (HS.mu 2 rfl)
         obtain ⟨A1994, c1995, rfl⟩ := row_slice (HS.mu 0 rfl)
         obtain ⟨t1996, ha1997, H⟩ := bind_some H
         refine dc_ 6 (w_none rfl) func45 (impl_AddCell.runs k t1470 A1986 c1987 A1988 c1989 t1968 A1990 c1991 t1975 A1992 c1993 A1994 c1995 t1996.1 t1996.2.1 t1996.2.2 _ (row_C rfl (HS.mu 9 rfl) (HS.getN 1 rfl)) (row_le (HS.mu 9 rfl)) (row_C rfl (HS.mu 7 rfl) (HS.elsK 8 rfl)) (row_le (HS.mu 7 rfl)) (row_C rfl (HS.mu 4 rfl) (HS.getN 0 rfl)) (row_le (HS.mu 4 rfl)) (row_C rfl (HS.mu 2 rfl) (HS.elsK 3 rfl)) (row_le (HS.mu 2 rfl)) (row_C rfl (HS.mu 0 rfl) (HS.elsK 1 rfl)) (row_le (HS.mu 0 rfl)) ha1997) ?_
         exact by (
         clear ha1997
         rintro _ w1998 ⟨v1999, bl2000, v2001, bl2002, v2003, bl2004, rfl, hO_, hb⟩
         replace HS := HS.got hb hO_
         dsimp only [List.cons_append, List.nil_append] at HS
         clear hO_
         obtain ⟨I2005, bl2006, HS⟩ := HS.unseal (sz := 1) rfl
         replace HS := HS.freezeN 1 (p := (rF kI t1996.1.f0 I2005)) rfl (fun _ hP_ _ => RepsB.reps hP_)
         dsimp only [List.eraseIdx] at HS
         exact by (
         replace HS := HS.front 1 rfl
         dsimp only [List.eraseIdx] at HS
         obtain ⟨I2007, bl2008, HS⟩ := HS.unseal (sz := 1) rfl
         replace HS := HS.front 3 rfl
         dsimp only [List.eraseIdx] at HS
         obtain ⟨I2009, bl2010, HS⟩ := HS.unseal (sz := 1) rfl
         replace HS := HS.freezeN 1 (p := (rF kI t1996.2.1.f0 I2009)) rfl (fun _ hP_ _ => RepsB.reps hP_)
         dsimp only [List.eraseIdx] at HS
         exact by (
         refine ⟨⟨HS.nowO, HS.nowN.2.2.2.2, ⟨(HS.mu 52 rfl), (HS.mu 53 rfl), (HS.mu 54 rfl), trivial⟩⟩, _, rfl, ?_⟩
         clear hb
         refine dm_ 7 ?_
         refine dp_ 8 (fun _ => Run.extract rfl rfl rfl) ?_
         refine dp_ 9 (fun _ => Run.extract rfl rfl rfl) ?_
         refine dp_ 10 (fun _ => Run.extract rfl rfl rfl) ?_
         exact useWD X1469 ⟨b1854, b1966, A1986, t1470, c1987, A1988, c1989, A1990, t1968, c1991, A1992, t1975, c1993, A1994, c1995, v1999, v2001, v2003, t1996, I2009, I2007, bl2008, I2005, I1984, bl1985, I1982, bl1983, I1973, I1479, bl1480, I1477, rfl, H, (St.sel HS [9, 10, 0, 1, 2, 3, 4, 5, 6, 7, 8, 11, 12, 13, 14, 15, 16, 17, 18, 19, 20, 21, 22, 23, 24, 25, 26, 27, 28, 29, 30, 31, 32, 33, 34, 35, 36, 37, 38, 39, 40, 41, 42, 43, 44, 45, 46, 47, 48, 49, 50, 51, 52, 53, 54])⟩ ))))))))
     · have HT_ := True.intro
       exact by (
       refine WDo.alloc (v := .agg #[sn, vi 0]) (cs := #[sn, vi 0]) 12 (w_none rfl) HS rfl (by kernel_rfl) rfl (fun b2011 w2012 hb2011 HS => ?_)
       refine ⟨⟨HS.nowO, HS.nowN.2, ⟨(HS.mu 42 rfl), (HS.mu 43 rfl), (HS.mu 44 rfl), trivial⟩⟩, ?_⟩
       refine two__ 3 11 ?_ ?_
       · have HT_ := True.intro
         obtain ⟨t2013, ha2014, H⟩ := bind_some H
         refine dco_ 3 (w_none rfl) func61 (laws_toTable.runs k (⟨x1.f0, x1.f1⟩ : S85) A1_0 c1_0 t2013 _ (HS.getO 2 rfl) hc1_0 ha2014) ?_
         clear ha2014
         rintro _ w2015 ⟨v2016, bl2017, rfl, hO_, hb⟩
         exact by (
         replace HS := HS.got hb hO_
         dsimp only [List.cons_append, List.nil_append] at HS
         clear hO_
         obtain ⟨I2018, bl2019, HS⟩ := HS.unseal (sz := 1) rfl
         replace HS := HS.freezeN 1 (p := (rF kI t2013.f0 I2018)) rfl (fun _ hP_ _ => RepsB.reps hP_)
         dsimp only [List.eraseIdx] at HS
         refine ⟨⟨HS.nowO, HS.nowN.2.2, ⟨(HS.mu 43 rfl), (HS.mu 44 rfl), (HS.mu 45 rfl), trivial⟩⟩, _, rfl, ?_⟩
         clear hb
         exact by (
         refine two__ 5 11 ?_ ?_
         · have HT_ := True.intro
           obtain ⟨t2020, ha2021, H⟩ := bind_some H
           refine dco_ 5 (w_none rfl) func74 (laws_toCell.runs k (⟨x2.f0, x2.f1⟩ : S98) A2_0 c2_0 A2_1 c2_1 t2020 _ (HS.getO 3 rfl) hc2_0 (HS.getO 4 rfl) hc2_1 ha2021) ?_
           clear ha2021
           rintro _ w2022 ⟨v2023, bl2024, v2025, bl2026, rfl, hO_, hb⟩
           replace HS := HS.got hb hO_
           dsimp only [List.cons_append, List.nil_append] at HS
           exact by (
           clear hO_
           obtain ⟨I2027, bl2028, HS⟩ := HS.unseal (sz := 1) rfl
           replace HS := HS.front 2 rfl
           dsimp only [List.eraseIdx] at HS
           obtain ⟨I2029, bl2030, HS⟩ := HS.unseal (sz := 1) rfl
           refine ⟨⟨HS.nowO, HS.nowN.2.2, ⟨(HS.mu 47 rfl), (HS.mu 48 rfl), (HS.mu 49 rfl), trivial⟩⟩, _, rfl, ?_⟩
           clear hb
           refine two__ 6 11 ?_ ?_
           · have HT_ := True.intro
             exact by (
             obtain ⟨A2031, c2032, rfl⟩ := row_slice (HS.mu 8 rfl)
             obtain ⟨A2033, c2034, rfl⟩ := row_slice (HS.mu 6 rfl)
             obtain ⟨A2035, c2036, rfl⟩ := row_slice (HS.mu 4 rfl)
             obtain ⟨A2037, c2038, rfl⟩ := row_slice (HS.mu 2 rfl)
             obtain ⟨A2039, c2040, rfl⟩ := row_slice (HS.mu 0 rfl)
             obtain ⟨t2041, ha2042, H⟩ := bind_some H
             refine dco_ 6 (w_none rfl) func45 (impl_AddCell.runs k t1470 A2031 c2032 A2033 c2034 t2013 A2035 c2036 t2020 A2037 c2038 A2039 c2040 t2041.1 t2041.2.1 t2041.2.2 _ (row_C rfl (HS.mu 8 rfl) (HS.getN 1 rfl)) (row_le (HS.mu 8 rfl)) (row_C rfl (HS.mu 6 rfl) (HS.elsK 7 rfl)) (row_le (HS.mu 6 rfl)) (row_C rfl (HS.mu 4 rfl) (HS.getN 0 rfl)) (row_le (HS.mu 4 rfl)) (row_C rfl (HS.mu 2 rfl) (HS.elsK 3 rfl)) (row_le (HS.mu 2 rfl)) (row_C rfl (HS.mu 0 rfl) (HS.elsK 1 rfl)) (row_le (HS.mu 0 rfl)) ha2042) ?_
             clear ha2042
             exact by (
             rintro _ w2043 ⟨v2044, bl2045, v2046, bl2047, v2048, bl2049, rfl, hO_, hb⟩
             replace HS := HS.got hb hO_
             dsimp only [List.cons_append, List.nil_append] at HS
             clear hO_
             obtain ⟨I2050, bl2051, HS⟩ := HS.unseal (sz := 1) rfl
             replace HS := HS.freezeN 1 (p := (rF kI t2041.1.f0 I2050)) rfl (fun _ hP_ _ => RepsB.reps hP_)
             dsimp only [List.eraseIdx] at HS
             replace HS := HS.front 1 rfl
             exact by (
             dsimp only [List.eraseIdx] at HS
             obtain ⟨I2052, bl2053, HS⟩ := HS.unseal (sz := 1) rfl
             replace HS := HS.front 3 rfl
             dsimp only [List.eraseIdx] at HS
             obtain ⟨I2054, bl2055, HS⟩ := HS.unseal (sz := 1) rfl
             replace HS := HS.freezeN 1 (p := (rF kI t2041.2.1.f0 I2054)) rfl (fun _ hP_ _ => RepsB.reps hP_)
             dsimp only [List.eraseIdx] at HS
             refine ⟨⟨HS.nowO, HS.nowN.2.2.2.2, ⟨(HS.mu 51 rfl), (HS.mu 52 rfl), (HS.mu 53 rfl), trivial⟩⟩, _, rfl, ?_⟩
             exact by (
             clear hb
             refine dm_ 7 ?_
             refine dp_ 8 (fun _ => Run.extract rfl rfl rfl) ?_
             refine dp_ 9 (fun _ => Run.extract rfl rfl rfl) ?_
             refine dp_ 10 (fun _ => Run.extract rfl rfl rfl) ?_
             refine WD.alloc (v := .agg #[sn, sn]) (cs := #[sn, sn]) 11 (w_none rfl) HS rfl (by kernel_rfl) rfl (fun b2056 w2057 hb2056 HS => ?_)
             refine ⟨⟨HS.nowO, HS.nowN.2.2.2.2, ⟨(HS.mu 52 rfl), (HS.mu 53 rfl), (HS.mu 54 rfl), trivial⟩⟩, ?_⟩
             exact useWD X1469 ⟨b2056, b2011, A2031, t1470, c2032, A2033, c2034, A2035, t2013, c2036, A2037, t2020, c2038, A2039, c2040, v2044, v2046, v2048, t2041, I2054, I2052, bl2053, I2050, I2029, bl2030, I2027, bl2028, I2018, I1479, bl1480, I1477, rfl, H, (St.sel HS [10, 0, 1, 2, 3, 4, 5, 6, 7, 8, 9, 11, 12, 13, 14, 15, 16, 17, 18, 19, 20, 21, 22, 23, 24, 25, 26, 27, 28, 29, 30, 31, 32, 33, 34, 35, 36, 37, 38, 39, 40, 41, 42, 43, 44, 45, 46, 47, 48, 49, 50, 51, 52, 53, 54])⟩ ))))
           · have HT_ := True.intro
             exact by (
             refine WDo.alloc (v := .agg #[sn, sn]) (cs := #[sn, sn]) 11 (w_none rfl) HS rfl (by kernel_rfl) rfl (fun b2058 w2059 hb2058 HS => ?_)
             refine ⟨⟨HS.nowO, HS.nowN.2.2, ⟨(HS.mu 48 rfl), (HS.mu 49 rfl), (HS.mu 50 rfl), trivial⟩⟩, ?_⟩
             obtain ⟨A2060, c2061, rfl⟩ := row_slice (HS.mu 9 rfl)
             obtain ⟨A2062, c2063, rfl⟩ := row_slice (HS.mu 7 rfl)
             obtain ⟨A2064, c2065, rfl⟩ := row_slice (HS.mu 5 rfl)
             obtain ⟨A2066, c2067, rfl⟩ := row_slice (HS.mu 3 rfl)
             obtain ⟨A2068, c2069, rfl⟩ := row_slice (HS.mu 1 rfl)
             obtain ⟨t2070, ha2071, H⟩ := bind_some H
             exact by (
             refine dc_ 6 (w_none rfl) func45 (impl_AddCell.runs k t1470 A2060 c2061 A2062 c2063 t2013 A2064 c2065 t2020 A2066 c2067 A2068 c2069 t2070.1 t2070.2.1 t2070.2.2 _ (row_C rfl (HS.mu 9 rfl) (HS.getN 1 rfl)) (row_le (HS.mu 9 rfl)) (row_C rfl (HS.mu 7 rfl) (HS.elsK 8 rfl)) (row_le (HS.mu 7 rfl)) (row_C rfl (HS.mu 5 rfl) (HS.getN 0 rfl)) (row_le (HS.mu 5 rfl)) (row_C rfl (HS.mu 3 rfl) (HS.elsK 4 rfl)) (row_le (HS.mu 3 rfl)) (row_C rfl (HS.mu 1 rfl) (HS.elsK 2 rfl)) (row_le (HS.mu 1 rfl)) ha2071) ?_
             clear ha2071
             rintro _ w2072 ⟨v2073, bl2074, v2075, bl2076, v2077, bl2078, rfl, hO_, hb⟩
             replace HS := HS.got hb hO_
             dsimp only [List.cons_append, List.nil_append] at HS
             clear hO_
             obtain ⟨I2079, bl2080, HS⟩ := HS.unseal (sz := 1) rfl
             replace HS := HS.freezeN 1 (p := (rF kI t2070.1.f0 I2079)) rfl (fun _ hP_ _ => RepsB.reps hP_)
             exact by (
             dsimp only [List.eraseIdx] at HS
             replace HS := HS.front 1 rfl
             dsimp only [List.eraseIdx] at HS
             obtain ⟨I2081, bl2082, HS⟩ := HS.unseal (sz := 1) rfl
             replace HS := HS.front 3 rfl
             dsimp only [List.eraseIdx] at HS
             obtain ⟨I2083, bl2084, HS⟩ := HS.unseal (sz := 1) rfl
             replace HS := HS.freezeN 1 (p := (rF kI t2070.2.1.f0 I2083)) rfl (fun _ hP_ _ => RepsB.reps hP_)
             exact by (
             dsimp only [List.eraseIdx] at HS
             refine ⟨⟨HS.nowO, HS.nowN.2.2.2.2, ⟨(HS.mu 52 rfl), (HS.mu 53 rfl), (HS.mu 54 rfl), trivial⟩⟩, _, rfl, ?_⟩
             clear hb
             refine dm_ 7 ?_
             refine dp_ 8 (fun _ => Run.extract rfl rfl rfl) ?_
             refine dp_ 9 (fun _ => Run.extract rfl rfl rfl) ?_
             refine dp_ 10 (fun _ => Run.extract rfl rfl rfl) ?_
             exact useWD X1469 ⟨b2058, b2011, A2060, t1470, c2061, A2062, c2063, A2064, t2013, c2065, A2066, t2020, c2067, A2068, c2069, v2073, v2075, v2077, t2070, I2083, I2081, bl2082, I2079, I2029, bl2030, I2027, bl2028, I2018, I1479, bl1480, I1477, rfl, H, (St.sel HS [10, 4, 0, 1, 2, 3, 5, 6, 7, 8, 9, 11, 12, 13, 14, 15, 16, 17, 18, 19, 20, 21, 22, 23, 24, 25, 26, 27, 28, 29, 30, 31, 32, 33, 34, 35, 36, 37, 38, 39, 40, 41, 42, 43, 44, 45, 46, 47, 48, 49, 50, 51, 52, 53, 54])⟩ )))))
         · have HT_ := True.intro
           exact by (
           refine WDo.alloc (v := .agg #[sn, sn]) (cs := #[sn, sn]) 11 (w_none rfl) HS rfl (by kernel_rfl) rfl (fun b2085 w2086 hb2085 HS => ?_)
           refine ⟨⟨HS.nowO, HS.nowN.2.2, ⟨(HS.mu 44 rfl), (HS.mu 45 rfl), (HS.mu 46 rfl), trivial⟩⟩, ?_⟩
           obtain ⟨t2087, ha2088, H⟩ := bind_some H
           refine dc_ 5 (w_none rfl) func74 (laws_toCell.runs k (⟨x2.f0, x2.f1⟩ : S98) A2_0 c2_0 A2_1 c2_1 t2087 _ (HS.getO 3 rfl) hc2_0 (HS.getO 4 rfl) hc2_1 ha2088) ?_
           clear ha2088
           rintro _ w2089 ⟨v2090, bl2091, v2092, bl2093, rfl, hO_, hb⟩
           replace HS := HS.got hb hO_
           dsimp only [List.cons_append, List.nil_append] at HS
           exact by (
           clear hO_
           obtain ⟨I2094, bl2095, HS⟩ := HS.unseal (sz := 1) rfl
           replace HS := HS.front 2 rfl
           dsimp only [List.eraseIdx] at HS
           obtain ⟨I2096, bl2097, HS⟩ := HS.unseal (sz := 1) rfl
           refine ⟨⟨HS.nowO, HS.nowN.2.2, ⟨(HS.mu 48 rfl), (HS.mu 49 rfl), (HS.mu 50 rfl), trivial⟩⟩, _, rfl, ?_⟩
           clear hb
           obtain ⟨A2098, c2099, rfl⟩ := row_slice (HS.mu 9 rfl)
           exact by (
           obtain ⟨A2100, c2101, rfl⟩ := row_slice (HS.mu 7 rfl)
           obtain ⟨A2102, c2103, rfl⟩ := row_slice (HS.mu 5 rfl)
           obtain ⟨A2104, c2105, rfl⟩ := row_slice (HS.mu 2 rfl)
           obtain ⟨A2106, c2107, rfl⟩ := row_slice (HS.mu 0 rfl)
           obtain ⟨t2108, ha2109, H⟩ := bind_some H
           refine dc_ 6 (w_none rfl) func45 (impl_AddCell.runs k t1470 A2098 c2099 A2100 c2101 t2013 A2102 c2103 t2087 A2104 c2105 A2106 c2107 t2108.1 t2108.2.1 t2108.2.2 _ (row_C rfl (HS.mu 9 rfl) (HS.getN 1 rfl)) (row_le (HS.mu 9 rfl)) (row_C rfl (HS.mu 7 rfl) (HS.elsK 8 rfl)) (row_le (HS.mu 7 rfl)) (row_C rfl (HS.mu 5 rfl) (HS.getN 0 rfl)) (row_le (HS.mu 5 rfl)) (row_C rfl (HS.mu 2 rfl) (HS.elsK 3 rfl)) (row_le (HS.mu 2 rfl)) (row_C rfl (HS.mu 0 rfl) (HS.elsK 1 rfl)) (row_le (HS.mu 0 rfl)) ha2109) ?_
           clear ha2109
           rintro _ w2110 ⟨v2111, bl2112, v2113, bl2114, v2115, bl2116, rfl, hO_, hb⟩
           exact by (
           replace HS := HS.got hb hO_
           dsimp only [List.cons_append, List.nil_append] at HS
           clear hO_
           obtain ⟨I2117, bl2118, HS⟩ := HS.unseal (sz := 1) rfl
           replace HS := HS.freezeN 1 (p := (rF kI t2108.1.f0 I2117)) rfl (fun _ hP_ _ => RepsB.reps hP_)
           dsimp only [List.eraseIdx] at HS
           replace HS := HS.front 1 rfl
           dsimp only [List.eraseIdx] at HS
           exact by (
           obtain ⟨I2119, bl2120, HS⟩ := HS.unseal (sz := 1) rfl
           replace HS := HS.front 3 rfl
           dsimp only [List.eraseIdx] at HS
           obtain ⟨I2121, bl2122, HS⟩ := HS.unseal (sz := 1) rfl
           replace HS := HS.freezeN 1 (p := (rF kI t2108.2.1.f0 I2121)) rfl (fun _ hP_ _ => RepsB.reps hP_)
           dsimp only [List.eraseIdx] at HS
           refine ⟨⟨HS.nowO, HS.nowN.2.2.2.2, ⟨(HS.mu 52 rfl), (HS.mu 53 rfl), (HS.mu 54 rfl), trivial⟩⟩, _, rfl, ?_⟩
           clear hb
           exact by (
           refine dm_ 7 ?_
           refine dp_ 8 (fun _ => Run.extract rfl rfl rfl) ?_
           refine dp_ 9 (fun _ => Run.extract rfl rfl rfl) ?_
           refine dp_ 10 (fun _ => Run.extract rfl rfl rfl) ?_
           exact useWD X1469 ⟨b2085, b2011, A2098, t1470, c2099, A2100, c2101, A2102, t2013, c2103, A2104, t2087, c2105, A2106, c2107, v2111, v2113, v2115, t2108, I2121, I2119, bl2120, I2117, I2096, bl2097, I2094, bl2095, I2018, I1479, bl1480, I1477, rfl, H, (St.sel HS [10, 8, 0, 1, 2, 3, 4, 5, 6, 7, 9, 11, 12, 13, 14, 15, 16, 17, 18, 19, 20, 21, 22, 23, 24, 25, 26, 27, 28, 29, 30, 31, 32, 33, 34, 35, 36, 37, 38, 39, 40, 41, 42, 43, 44, 45, 46, 47, 48, 49, 50, 51, 52, 53, 54])⟩ ))))))))
       · have HT_ := True.intro
         refine WDo.alloc (v := .agg #[sn, sn]) (cs := #[sn, sn]) 11 (w_none rfl) HS rfl (by kernel_rfl) rfl (fun b2123 w2124 hb2123 HS => ?_)
         refine ⟨⟨HS.nowO, HS.nowN.2, ⟨(HS.mu 43 rfl), (HS.mu 44 rfl), (HS.mu 45 rfl), trivial⟩⟩, ?_⟩
         exact by (
         obtain ⟨t2125, ha2126, H⟩ := bind_some H
         refine dc_ 3 (w_none rfl) func61 (laws_toTable.runs k (⟨x1.f0, x1.f1⟩ : S85) A1_0 c1_0 t2125 _ (HS.getO 2 rfl) hc1_0 ha2126) ?_
         clear ha2126
         rintro _ w2127 ⟨v2128, bl2129, rfl, hO_, hb⟩
         replace HS := HS.got hb hO_
         dsimp only [List.cons_append, List.nil_append] at HS
         clear hO_
         obtain ⟨I2130, bl2131, HS⟩ := HS.unseal (sz := 1) rfl
         exact by (
         replace HS := HS.freezeN 1 (p := (rF kI t2125.f0 I2130)) rfl (fun _ hP_ _ => RepsB.reps hP_)
         dsimp only [List.eraseIdx] at HS
         refine ⟨⟨HS.nowO, HS.nowN.2.2, ⟨(HS.mu 44 rfl), (HS.mu 45 rfl), (HS.mu 46 rfl), trivial⟩⟩, _, rfl, ?_⟩
         clear hb
         obtain ⟨t2132, ha2133, H⟩ := bind_some H
         refine dc_ 5 (w_none rfl) func74 (laws_toCell.runs k (⟨x2.f0, x2.f1⟩ : S98) A2_0 c2_0 A2_1 c2_1 t2132 _ (HS.getO 3 rfl) hc2_0 (HS.getO 4 rfl) hc2_1 ha2133) ?_
         clear ha2133
         rintro _ w2134 ⟨v2135, bl2136, v2137, bl2138, rfl, hO_, hb⟩
         exact by (
         replace HS := HS.got hb hO_
         dsimp only [List.cons_append, List.nil_append] at HS
         clear hO_
         obtain ⟨I2139, bl2140, HS⟩ := HS.unseal (sz := 1) rfl
         replace HS := HS.front 2 rfl
         dsimp only [List.eraseIdx] at HS
         obtain ⟨I2141, bl2142, HS⟩ := HS.unseal (sz := 1) rfl
         refine ⟨⟨HS.nowO, HS.nowN.2.2, ⟨(HS.mu 48 rfl), (HS.mu 49 rfl), (HS.mu 50 rfl), trivial⟩⟩, _, rfl, ?_⟩
         exact by (
         clear hb
         obtain ⟨A2143, c2144, rfl⟩ := row_slice (HS.mu 9 rfl)
         obtain ⟨A2145, c2146, rfl⟩ := row_slice (HS.mu 7 rfl)
         obtain ⟨A2147, c2148, rfl⟩ := row_slice (HS.mu 4 rfl)
         obtain ⟨A2149, c2150, rfl⟩ := row_slice (HS.mu 2 rfl)
         obtain ⟨A2151, c2152, rfl⟩ := row_slice (HS.mu 0 rfl)
         obtain ⟨t2153, ha2154, H⟩ := bind_some H
         refine dc_ 6 (w_none rfl) func45 (impl_AddCell.runs k t1470 A2143 c2144 A2145 c2146 t2125 A2147 c2148 t2132 A2149 c2150 A2151 c2152 t2153.1 t2153.2.1 t2153.2.2 _ (row_C rfl (HS.mu 9 rfl) (HS.getN 1 rfl)) (row_le (HS.mu 9 rfl)) (row_C rfl (HS.mu 7 rfl) (HS.elsK 8 rfl)) (row_le (HS.mu 7 rfl)) (row_C rfl (HS.mu 4 rfl) (HS.getN 0 rfl)) (row_le (HS.mu 4 rfl)) (row_C rfl (HS.mu 2 rfl) (HS.elsK 3 rfl)) (row_le (HS.mu 2 rfl)) (row_C rfl (HS.mu 0 rfl) (HS.elsK 1 rfl)) (row_le (HS.mu 0 rfl)) ha2154) ?_
         exact by (
         clear ha2154
         rintro _ w2155 ⟨v2156, bl2157, v2158, bl2159, v2160, bl2161, rfl, hO_, hb⟩
         replace HS := HS.got hb hO_
         dsimp only [List.cons_append, List.nil_append] at HS
         clear hO_
         obtain ⟨I2162, bl2163, HS⟩ := HS.unseal (sz := 1) rfl
         replace HS := HS.freezeN 1 (p := (rF kI t2153.1.f0 I2162)) rfl (fun _ hP_ _ => RepsB.reps hP_)
         dsimp only [List.eraseIdx] at HS
         exact by (
         replace HS := HS.front 1 rfl
         dsimp only [List.eraseIdx] at HS
         obtain ⟨I2164, bl2165, HS⟩ := HS.unseal (sz := 1) rfl
         replace HS := HS.front 3 rfl
         dsimp only [List.eraseIdx] at HS
         obtain ⟨I2166, bl2167, HS⟩ := HS.unseal (sz := 1) rfl
         replace HS := HS.freezeN 1 (p := (rF kI t2153.2.1.f0 I2166)) rfl (fun _ hP_ _ => RepsB.reps hP_)
         dsimp only [List.eraseIdx] at HS
         exact by (
         refine ⟨⟨HS.nowO, HS.nowN.2.2.2.2, ⟨(HS.mu 52 rfl), (HS.mu 53 rfl), (HS.mu 54 rfl), trivial⟩⟩, _, rfl, ?_⟩
         clear hb
         refine dm_ 7 ?_
         refine dp_ 8 (fun _ => Run.extract rfl rfl rfl) ?_
         refine dp_ 9 (fun _ => Run.extract rfl rfl rfl) ?_
         refine dp_ 10 (fun _ => Run.extract rfl rfl rfl) ?_
         exact useWD X1469 ⟨b2123, b2011, A2143, t1470, c2144, A2145, c2146, A2147, t2125, c2148, A2149, t2132, c2150, A2151, c2152, v2156, v2158, v2160, t2153, I2166, I2164, bl2165, I2162, I2141, bl2142, I2139, bl2140, I2130, I1479, bl1480, I1477, rfl, H, (St.sel HS [10, 9, 0, 1, 2, 3, 4, 5, 6, 7, 8, 11, 12, 13, 14, 15, 16, 17, 18, 19, 20, 21, 22, 23, 24, 25, 26, 27, 28, 29, 30, 31, 32, 33, 34, 35, 36, 37, 38, 39, 40, 41, 42, 43, 44, 45, 46, 47, 48, 49, 50, 51, 52, 53, 54])⟩ ))))))))))
   · have HT_ := True.intro
     exact by (
     refine WDo.alloc (v := .agg #[sn, sn]) (cs := #[sn, sn]) 11 (w_none rfl) HS rfl (by kernel_rfl) rfl (fun b2168 w2169 hb2168 HS => ?_)
     refine ⟨⟨HS.nowO, HS.nowN, ⟨(HS.mu 39 rfl), (HS.mu 40 rfl), (HS.mu 41 rfl), trivial⟩⟩, ?_⟩
     refine two__ 1 12 ?_ ?_
     · have HT_ := True.intro
       obtain ⟨t2170, ha2171, H⟩ := bind_some H
       refine dco_ 1 (w_none rfl) func60 (laws_toStore.runs k (⟨x0.f0, x0.f1⟩ : S84) A0_0 c0_0 A0_1 c0_1 t2170 _ (HS.getO 0 rfl) hc0_0 (HS.getO 1 rfl) hc0_1 ha2171) ?_
       clear ha2171
       rintro _ w2172 ⟨v2173, bl2174, v2175, bl2176, rfl, hO_, hb⟩
       exact by (
       replace HS := HS.got hb hO_
       dsimp only [List.cons_append, List.nil_append] at HS
       clear hO_
       obtain ⟨I2177, bl2178, HS⟩ := HS.unseal (sz := 1) rfl
       replace HS := HS.freezeN 1 (p := (rF kI t2170.f0 I2177)) rfl (fun _ hP_ _ => RepsB.reps hP_)
       dsimp only [List.eraseIdx] at HS
       replace HS := HS.front 1 rfl
       dsimp only [List.eraseIdx] at HS
       exact by (
       obtain ⟨I2179, bl2180, HS⟩ := HS.unseal (sz := 1) rfl
       refine ⟨⟨HS.nowO, HS.nowN.2, ⟨(HS.mu 42 rfl), (HS.mu 43 rfl), (HS.mu 44 rfl), trivial⟩⟩, _, rfl, ?_⟩
       clear hb
       refine two__ 3 12 ?_ ?_
       · have HT_ := True.intro
         obtain ⟨t2181, ha2182, H⟩ := bind_some H
         refine dco_ 3 (w_none rfl) func61 (laws_toTable.runs k (⟨x1.f0, x1.f1⟩ : S85) A1_0 c1_0 t2181 _ (HS.getO 2 rfl) hc1_0 ha2182) ?_
         clear ha2182
         exact by (
         rintro _ w2183 ⟨v2184, bl2185, rfl, hO_, hb⟩
         replace HS := HS.got hb hO_
         dsimp only [List.cons_append, List.nil_append] at HS
         clear hO_
         obtain ⟨I2186, bl2187, HS⟩ := HS.unseal (sz := 1) rfl
         replace HS := HS.freezeN 1 (p := (rF kI t2181.f0 I2186)) rfl (fun _ hP_ _ => RepsB.reps hP_)
         dsimp only [List.eraseIdx] at HS
         refine ⟨⟨HS.nowO, HS.nowN.2.2, ⟨(HS.mu 43 rfl), (HS.mu 44 rfl), (HS.mu 45 rfl), trivial⟩⟩, _, rfl, ?_⟩
         exact by (
         clear hb
         refine two__ 5 12 ?_ ?_
         · have HT_ := True.intro
           obtain ⟨t2188, ha2189, H⟩ := bind_some H
           refine dco_ 5 (w_none rfl) func74 (laws_toCell.runs k (⟨x2.f0, x2.f1⟩ : S98) A2_0 c2_0 A2_1 c2_1 t2188 _ (HS.getO 3 rfl) hc2_0 (HS.getO 4 rfl) hc2_1 ha2189) ?_
           clear ha2189
           rintro _ w2190 ⟨v2191, bl2192, v2193, bl2194, rfl, hO_, hb⟩
           replace HS := HS.got hb hO_
           exact by (
           dsimp only [List.cons_append, List.nil_append] at HS
           clear hO_
           obtain ⟨I2195, bl2196, HS⟩ := HS.unseal (sz := 1) rfl
           replace HS := HS.front 2 rfl
           dsimp only [List.eraseIdx] at HS
           obtain ⟨I2197, bl2198, HS⟩ := HS.unseal (sz := 1) rfl
           refine ⟨⟨HS.nowO, HS.nowN.2.2, ⟨(HS.mu 47 rfl), (HS.mu 48 rfl), (HS.mu 49 rfl), trivial⟩⟩, _, rfl, ?_⟩
           clear hb
           exact by (
           refine two__ 6 12 ?_ ?_
           · have HT_ := True.intro
             obtain ⟨A2199, c2200, rfl⟩ := row_slice (HS.mu 7 rfl)
             obtain ⟨A2201, c2202, rfl⟩ := row_slice (HS.mu 5 rfl)
             obtain ⟨A2203, c2204, rfl⟩ := row_slice (HS.mu 4 rfl)
             obtain ⟨A2205, c2206, rfl⟩ := row_slice (HS.mu 2 rfl)
             obtain ⟨A2207, c2208, rfl⟩ := row_slice (HS.mu 0 rfl)
             obtain ⟨t2209, ha2210, H⟩ := bind_some H
             exact by (
             refine dco_ 6 (w_none rfl) func45 (impl_AddCell.runs k t2170 A2199 c2200 A2201 c2202 t2181 A2203 c2204 t2188 A2205 c2206 A2207 c2208 t2209.1 t2209.2.1 t2209.2.2 _ (row_C rfl (HS.mu 7 rfl) (HS.getN 1 rfl)) (row_le (HS.mu 7 rfl)) (row_C rfl (HS.mu 5 rfl) (HS.elsK 6 rfl)) (row_le (HS.mu 5 rfl)) (row_C rfl (HS.mu 4 rfl) (HS.getN 0 rfl)) (row_le (HS.mu 4 rfl)) (row_C rfl (HS.mu 2 rfl) (HS.elsK 3 rfl)) (row_le (HS.mu 2 rfl)) (row_C rfl (HS.mu 0 rfl) (HS.elsK 1 rfl)) (row_le (HS.mu 0 rfl)) ha2210) ?_
             clear ha2210
             rintro _ w2211 ⟨v2212, bl2213, v2214, bl2215, v2216, bl2217, rfl, hO_, hb⟩
             replace HS := HS.got hb hO_
             dsimp only [List.cons_append, List.nil_append] at HS
             clear hO_
             obtain ⟨I2218, bl2219, HS⟩ := HS.unseal (sz := 1) rfl
             replace HS := HS.freezeN 1 (p := (rF kI t2209.1.f0 I2218)) rfl (fun _ hP_ _ => RepsB.reps hP_)
             exact by (
             dsimp only [List.eraseIdx] at HS
             replace HS := HS.front 1 rfl
             dsimp only [List.eraseIdx] at HS
             obtain ⟨I2220, bl2221, HS⟩ := HS.unseal (sz := 1) rfl
             replace HS := HS.front 3 rfl
             dsimp only [List.eraseIdx] at HS
             obtain ⟨I2222, bl2223, HS⟩ := HS.unseal (sz := 1) rfl
             replace HS := HS.freezeN 1 (p := (rF kI t2209.2.1.f0 I2222)) rfl (fun _ hP_ _ => RepsB.reps hP_)
             exact by (
             dsimp only [List.eraseIdx] at HS
             refine ⟨⟨HS.nowO, HS.nowN.2.2.2.2, ⟨(HS.mu 51 rfl), (HS.mu 52 rfl), (HS.mu 53 rfl), trivial⟩⟩, _, rfl, ?_⟩
             clear hb
             refine dm_ 7 ?_
             refine dp_ 8 (fun _ => Run.extract rfl rfl rfl) ?_
             refine dp_ 9 (fun _ => Run.extract rfl rfl rfl) ?_
             refine dp_ 10 (fun _ => Run.extract rfl rfl rfl) ?_
             refine WD.alloc (v := .agg #[sn, vi 0]) (cs := #[sn, vi 0]) 12 (w_none rfl) HS rfl (by kernel_rfl) rfl (fun b2224 w2225 hb2224 HS => ?_)
             exact by (
             refine ⟨⟨HS.nowO, HS.nowN.2.2.2.2, ⟨(HS.mu 52 rfl), (HS.mu 53 rfl), (HS.mu 54 rfl), trivial⟩⟩, ?_⟩
             exact useWD X1469 ⟨b2168, b2224, A2199, t2170, c2200, A2201, c2202, A2203, t2181, c2204, A2205, t2188, c2206, A2207, c2208, v2212, v2214, v2216, t2209, I2222, I2220, bl2221, I2218, I2197, bl2198, I2195, bl2196, I2186, I2179, bl2180, I2177, rfl, H, (St.sel HS [0, 13, 1, 2, 3, 4, 5, 6, 7, 8, 9, 10, 11, 12, 14, 15, 16, 17, 18, 19, 20, 21, 22, 23, 24, 25, 26, 27, 28, 29, 30, 31, 32, 33, 34, 35, 36, 37, 38, 39, 40, 41, 42, 43, 44, 45, 46, 47, 48, 49, 50, 51, 52, 53, 54])⟩ ))))
           · have HT_ := True.intro
             refine WDo.alloc (v := .agg #[sn, vi 0]) (cs := #[sn, vi 0]) 12 (w_none rfl) HS rfl (by kernel_rfl) rfl (fun b2226 w2227 hb2226 HS => ?_)
             refine ⟨⟨HS.nowO, HS.nowN.2.2, ⟨(HS.mu 48 rfl), (HS.mu 49 rfl), (HS.mu 50 rfl), trivial⟩⟩, ?_⟩
             obtain ⟨A2228, c2229, rfl⟩ := row_slice (HS.mu 8 rfl)
             obtain ⟨A2230, c2231, rfl⟩ := row_slice (HS.mu 6 rfl)
             obtain ⟨A2232, c2233, rfl⟩ := row_slice (HS.mu 5 rfl)
             exact by (
             obtain ⟨A2234, c2235, rfl⟩ := row_slice (HS.mu 3 rfl)
             obtain ⟨A2236, c2237, rfl⟩ := row_slice (HS.mu 1 rfl)
             obtain ⟨t2238, ha2239, H⟩ := bind_some H
             refine dc_ 6 (w_none rfl) func45 (impl_AddCell.runs k t2170 A2228 c2229 A2230 c2231 t2181 A2232 c2233 t2188 A2234 c2235 A2236 c2237 t2238.1 t2238.2.1 t2238.2.2 _ (row_C rfl (HS.mu 8 rfl) (HS.getN 1 rfl)) (row_le (HS.mu 8 rfl)) (row_C rfl (HS.mu 6 rfl) (HS.elsK 7 rfl)) (row_le (HS.mu 6 rfl)) (row_C rfl (HS.mu 5 rfl) (HS.getN 0 rfl)) (row_le (HS.mu 5 rfl)) (row_C rfl (HS.mu 3 rfl) (HS.elsK 4 rfl)) (row_le (HS.mu 3 rfl)) (row_C rfl (HS.mu 1 rfl) (HS.elsK 2 rfl)) (row_le (HS.mu 1 rfl)) ha2239) ?_
             clear ha2239
             rintro _ w2240 ⟨v2241, bl2242, v2243, bl2244, v2245, bl2246, rfl, hO_, hb⟩
             replace HS := HS.got hb hO_
             dsimp only [List.cons_append, List.nil_append] at HS
             exact by (
             clear hO_
             obtain ⟨I2247, bl2248, HS⟩ := HS.unseal (sz := 1) rfl
             replace HS := HS.freezeN 1 (p := (rF kI t2238.1.f0 I2247)) rfl (fun _ hP_ _ => RepsB.reps hP_)
             dsimp only [List.eraseIdx] at HS
             replace HS := HS.front 1 rfl
             dsimp only [List.eraseIdx] at HS
             obtain ⟨I2249, bl2250, HS⟩ := HS.unseal (sz := 1) rfl
             replace HS := HS.front 3 rfl
             exact by (
             dsimp only [List.eraseIdx] at HS
             obtain ⟨I2251, bl2252, HS⟩ := HS.unseal (sz := 1) rfl
             replace HS := HS.freezeN 1 (p := (rF kI t2238.2.1.f0 I2251)) rfl (fun _ hP_ _ => RepsB.reps hP_)
             dsimp only [List.eraseIdx] at HS
             refine ⟨⟨HS.nowO, HS.nowN.2.2.2.2, ⟨(HS.mu 52 rfl), (HS.mu 53 rfl), (HS.mu 54 rfl), trivial⟩⟩, _, rfl, ?_⟩
             clear hb
             refine dm_ 7 ?_
             refine dp_ 8 (fun _ => Run.extract rfl rfl rfl) ?_
             exact by (
             refine dp_ 9 (fun _ => Run.extract rfl rfl rfl) ?_
             refine dp_ 10 (fun _ => Run.extract rfl rfl rfl) ?_
             exact useWD X1469 ⟨b2168, b2226, A2228, t2170, c2229, A2230, c2231, A2232, t2181, c2233, A2234, t2188, c2235, A2236, c2237, v2241, v2243, v2245, t2238, I2251, I2249, bl2250, I2247, I2197, bl2198, I2195, bl2196, I2186, I2179, bl2180, I2177, rfl, H, (St.sel HS [4, 13, 0, 1, 2, 3, 5, 6, 7, 8, 9, 10, 11, 12, 14, 15, 16, 17, 18, 19, 20, 21, 22, 23, 24, 25, 26, 27, 28, 29, 30, 31, 32, 33, 34, 35, 36, 37, 38, 39, 40, 41, 42, 43, 44, 45, 46, 47, 48, 49, 50, 51, 52, 53, 54])⟩ ))))))
         · have HT_ := True.intro
           refine WDo.alloc (v := .agg #[sn, vi 0]) (cs := #[sn, vi 0]) 12 (w_none rfl) HS rfl (by kernel_rfl) rfl (fun b2253 w2254 hb2253 HS => ?_)
           refine ⟨⟨HS.nowO, HS.nowN.2.2, ⟨(HS.mu 44 rfl), (HS.mu 45 rfl), (HS.mu 46 rfl), trivial⟩⟩, ?_⟩
           obtain ⟨t2255, ha2256, H⟩ := bind_some H
           refine dc_ 5 (w_none rfl) func74 (laws_toCell.runs k (⟨x2.f0, x2.f1⟩ : S98) A2_0 c2_0 A2_1 c2_1 t2255 _ (HS.getO 3 rfl) hc2_0 (HS.getO 4 rfl) hc2_1 ha2256) ?_
           exact by (
           clear ha2256
           rintro _ w2257 ⟨v2258, bl2259, v2260, bl2261, rfl, hO_, hb⟩
           replace HS := HS.got hb hO_
           dsimp only [List.cons_append, List.nil_append] at HS
           clear hO_
           obtain ⟨I2262, bl2263, HS⟩ := HS.unseal (sz := 1) rfl
           replace HS := HS.front 2 rfl
           dsimp only [List.eraseIdx] at HS
           exact by (
           obtain ⟨I2264, bl2265, HS⟩ := HS.unseal (sz := 1) rfl
           refine ⟨⟨HS.nowO, HS.nowN.2.2, ⟨(HS.mu 48 rfl), (HS.mu 49 rfl), (HS.mu 50 rfl), trivial⟩⟩, _, rfl, ?_⟩
           clear hb
           obtain ⟨A2266, c2267, rfl⟩ := row_slice (HS.mu 8 rfl)
           obtain ⟨A2268, c2269, rfl⟩ := row_slice (HS.mu 6 rfl)
           obtain ⟨A2270, c2271, rfl⟩ := row_slice (HS.mu 5 rfl)
           obtain ⟨A2272, c2273, rfl⟩ := row_slice (HS.mu 2 rfl)
           obtain ⟨A2274, c2275, rfl⟩ := row_slice (HS.mu 0 rfl)
           exact by (
           obtain ⟨t2276, ha2277, H⟩ := bind_some H
           refine dc_ 6 (w_none rfl) func45 (impl_AddCell.runs k t2170 A2266 c2267 A2268 c2269 t2181 A2270 c2271 t2255 A2272 c2273 A2274 c2275 t2276.1 t2276.2.1 t2276.2.2 _ (row_C rfl (HS.mu 8 rfl) (HS.getN 1 rfl)) (row_le (HS.mu 8 rfl)) (row_C rfl (HS.mu 6 rfl) (HS.elsK 7 rfl)) (row_le (HS.mu 6 rfl)) (row_C rfl (HS.mu 5 rfl) (HS.getN 0 rfl)) (row_le (HS.mu 5 rfl)) (row_C rfl (HS.mu 2 rfl) (HS.elsK 3 rfl)) (row_le (HS.mu 2 rfl)) (row_C rfl (HS.mu 0 rfl) (HS.elsK 1 rfl)) (row_le (HS.mu 0 rfl)) ha2277) ?_
           clear ha2277
           rintro _ w2278 ⟨v2279, bl2280, v2281, bl2282, v2283, bl2284, rfl, hO_, hb⟩
           replace HS := HS.got hb hO_
           dsimp only [List.cons_append, List.nil_append] at HS
           clear hO_
           obtain ⟨I2285, bl2286, HS⟩ := HS.unseal (sz := 1) rfl
           exact by (
           replace HS := HS.freezeN 1 (p := (rF kI t2276.1.f0 I2285)) rfl (fun _ hP_ _ => RepsB.reps hP_)
           dsimp only [List.eraseIdx] at HS
           replace HS := HS.front 1 rfl
           dsimp only [List.eraseIdx] at HS
           obtain ⟨I2287, bl2288, HS⟩ := HS.unseal (sz := 1) rfl
           replace HS := HS.front 3 rfl
           dsimp only [List.eraseIdx] at HS
           obtain ⟨I2289, bl2290, HS⟩ := HS.unseal (sz := 1) rfl
           exact by (
           replace HS := HS.freezeN 1 (p := (rF kI t2276.2.1.f0 I2289)) rfl (fun _ hP_ _ => RepsB.reps hP_)
           dsimp only [List.eraseIdx] at HS
           refine ⟨⟨HS.nowO, HS.nowN.2.2.2.2, ⟨(HS.mu 52 rfl), (HS.mu 53 rfl), (HS.mu 54 rfl), trivial⟩⟩, _, rfl, ?_⟩
           clear hb
           refine dm_ 7 ?_
           refine dp_ 8 (fun _ => Run.extract rfl rfl rfl) ?_
           refine dp_ 9 (fun _ => Run.extract rfl rfl rfl) ?_
           refine dp_ 10 (fun _ => Run.extract rfl rfl rfl) ?_
           exact useWD X1469 ⟨b2168, b2253, A2266, t2170, c2267, A2268, c2269, A2270, t2181, c2271, A2272, t2255, c2273, A2274, c2275, v2279, v2281, v2283, t2276, I2289, I2287, bl2288, I2285, I2264, bl2265, I2262, bl2263, I2186, I2179, bl2180, I2177, rfl, H, (St.sel HS [8, 13, 0, 1, 2, 3, 4, 5, 6, 7, 9, 10, 11, 12, 14, 15, 16, 17, 18, 19, 20, 21, 22, 23, 24, 25, 26, 27, 28, 29, 30, 31, 32, 33, 34, 35, 36, 37, 38, 39, 40, 41, 42, 43, 44, 45, 46, 47, 48, 49, 50, 51, 52, 53, 54])⟩ )))))))
       · have HT_ := True.intro
         exact by (
         refine WDo.alloc (v := .agg #[sn, vi 0]) (cs := #[sn, vi 0]) 12 (w_none rfl) HS rfl (by kernel_rfl) rfl (fun b2291 w2292 hb2291 HS => ?_)
         refine ⟨⟨HS.nowO, HS.nowN.2, ⟨(HS.mu 43 rfl), (HS.mu 44 rfl), (HS.mu 45 rfl), trivial⟩⟩, ?_⟩
         obtain ⟨t2293, ha2294, H⟩ := bind_some H
         refine dc_ 3 (w_none rfl) func61 (laws_toTable.runs k (⟨x1.f0, x1.f1⟩ : S85) A1_0 c1_0 t2293 _ (HS.getO 2 rfl) hc1_0 ha2294) ?_
         clear ha2294
         rintro _ w2295 ⟨v2296, bl2297, rfl, hO_, hb⟩
         replace HS := HS.got hb hO_
         dsimp only [List.cons_append, List.nil_append] at HS
         exact by (
         clear hO_
         obtain ⟨I2298, bl2299, HS⟩ := HS.unseal (sz := 1) rfl
         replace HS := HS.freezeN 1 (p := (rF kI t2293.f0 I2298)) rfl (fun _ hP_ _ => RepsB.reps hP_)
         dsimp only [List.eraseIdx] at HS
         refine ⟨⟨HS.nowO, HS.nowN.2.2, ⟨(HS.mu 44 rfl), (HS.mu 45 rfl), (HS.mu 46 rfl), trivial⟩⟩, _, rfl, ?_⟩
         clear hb
         obtain ⟨t2300, ha2301, H⟩ := bind_some H
         refine dc_ 5 (w_none rfl) func74 (laws_toCell.runs k (⟨x2.f0, x2.f1⟩ : S98) A2_0 c2_0 A2_1 c2_1 t2300 _ (HS.getO 3 rfl) hc2_0 (HS.getO 4 rfl) hc2_1 ha2301) ?_
         exact by (
         clear ha2301
         rintro _ w2302 ⟨v2303, bl2304, v2305, bl2306, rfl, hO_, hb⟩
         replace HS := HS.got hb hO_
         dsimp only [List.cons_append, List.nil_append] at HS
         clear hO_
         obtain ⟨I2307, bl2308, HS⟩ := HS.unseal (sz := 1) rfl
         replace HS := HS.front 2 rfl
         dsimp only [List.eraseIdx] at HS
         exact by (
         obtain ⟨I2309, bl2310, HS⟩ := HS.unseal (sz := 1) rfl
         refine ⟨⟨HS.nowO, HS.nowN.2.2, ⟨(HS.mu 48 rfl), (HS.mu 49 rfl), (HS.mu 50 rfl), trivial⟩⟩, _, rfl, ?_⟩
         clear hb
         obtain ⟨A2311, c2312, rfl⟩ := row_slice (HS.mu 8 rfl)
         obtain ⟨A2313, c2314, rfl⟩ := row_slice (HS.mu 6 rfl)
         obtain ⟨A2315, c2316, rfl⟩ := row_slice (HS.mu 4 rfl)
         obtain ⟨A2317, c2318, rfl⟩ := row_slice (HS.mu 2 rfl)
         obtain ⟨A2319, c2320, rfl⟩ := row_slice (HS.mu 0 rfl)
         exact by (
         obtain ⟨t2321, ha2322, H⟩ := bind_some H
         refine dc_ 6 (w_none rfl) func45 (impl_AddCell.runs k t2170 A2311 c2312 A2313 c2314 t2293 A2315 c2316 t2300 A2317 c2318 A2319 c2320 t2321.1 t2321.2.1 t2321.2.2 _ (row_C rfl (HS.mu 8 rfl) (HS.getN 1 rfl)) (row_le (HS.mu 8 rfl)) (row_C rfl (HS.mu 6 rfl) (HS.elsK 7 rfl)) (row_le (HS.mu 6 rfl)) (row_C rfl (HS.mu 4 rfl) (HS.getN 0 rfl)) (row_le (HS.mu 4 rfl)) (row_C rfl (HS.mu 2 rfl) (HS.elsK 3 rfl)) (row_le (HS.mu 2 rfl)) (row_C rfl (HS.mu 0 rfl) (HS.elsK 1 rfl)) (row_le (HS.mu 0 rfl)) ha2322) ?_
         clear ha2322
         rintro _ w2323 ⟨v2324, bl2325, v2326, bl2327, v2328, bl2329, rfl, hO_, hb⟩
         replace HS := HS.got hb hO_
         dsimp only [List.cons_append, List.nil_append] at HS
         clear hO_
         obtain ⟨I2330, bl2331, HS⟩ := HS.unseal (sz := 1) rfl
         exact by (
         replace HS := HS.freezeN 1 (p := (rF kI t2321.1.f0 I2330)) rfl (fun _ hP_ _ => RepsB.reps hP_)
         dsimp only [List.eraseIdx] at HS
         replace HS := HS.front 1 rfl
         dsimp only [List.eraseIdx] at HS
         obtain ⟨I2332, bl2333, HS⟩ := HS.unseal (sz := 1) rfl
         replace HS := HS.front 3 rfl
         dsimp only [List.eraseIdx] at HS
         obtain ⟨I2334, bl2335, HS⟩ := HS.unseal (sz := 1) rfl
         exact by (
         replace HS := HS.freezeN 1 (p := (rF kI t2321.2.1.f0 I2334)) rfl (fun _ hP_ _ => RepsB.reps hP_)
         dsimp only [List.eraseIdx] at HS
         refine ⟨⟨HS.nowO, HS.nowN.2.2.2.2, ⟨(HS.mu 52 rfl), (HS.mu 53 rfl), (HS.mu 54 rfl), trivial⟩⟩, _, rfl, ?_⟩
         clear hb
         refine dm_ 7 ?_
         refine dp_ 8 (fun _ => Run.extract rfl rfl rfl) ?_
         refine dp_ 9 (fun _ => Run.extract rfl rfl rfl) ?_
         refine dp_ 10 (fun _ => Run.extract rfl rfl rfl) ?_
         exact useWD X1469 ⟨b2168, b2291, A2311, t2170, c2312, A2313, c2314, A2315, t2293, c2316, A2317, t2300, c2318, A2319, c2320, v2324, v2326, v2328, t2321, I2334, I2332, bl2333, I2330, I2309, bl2310, I2307, bl2308, I2298, I2179, bl2180, I2177, rfl, H, (St.sel HS [9, 13, 0, 1, 2, 3, 4, 5, 6, 7, 8, 10, 11, 12, 14, 15, 16, 17, 18, 19, 20, 21, 22, 23, 24, 25, 26, 27, 28, 29, 30, 31, 32, 33, 34, 35, 36, 37, 38, 39, 40, 41, 42, 43, 44, 45, 46, 47, 48, 49, 50, 51, 52, 53, 54])⟩ )))))))))
     · have HT_ := True.intro
       exact by (
       refine WDo.alloc (v := .agg #[sn, vi 0]) (cs := #[sn, vi 0]) 12 (w_none rfl) HS rfl (by kernel_rfl) rfl (fun b2336 w2337 hb2336 HS => ?_)
       refine ⟨⟨HS.nowO, HS.nowN, ⟨(HS.mu 40 rfl), (HS.mu 41 rfl), (HS.mu 42 rfl), trivial⟩⟩, ?_⟩
       obtain ⟨t2338, ha2339, H⟩ := bind_some H
       refine dc_ 1 (w_none rfl) func60 (laws_toStore.runs k (⟨x0.f0, x0.f1⟩ : S84) A0_0 c0_0 A0_1 c0_1 t2338 _ (HS.getO 0 rfl) hc0_0 (HS.getO 1 rfl) hc0_1 ha2339) ?_
       clear ha2339
       rintro _ w2340 ⟨v2341, bl2342, v2343, bl2344, rfl, hO_, hb⟩
       replace HS := HS.got hb hO_
       dsimp only [List.cons_append, List.nil_append] at HS
       exact by (
       clear hO_
       obtain ⟨I2345, bl2346, HS⟩ := HS.unseal (sz := 1) rfl
       replace HS := HS.freezeN 1 (p := (rF kI t2338.f0 I2345)) rfl (fun _ hP_ _ => RepsB.reps hP_)
       dsimp only [List.eraseIdx] at HS
       replace HS := HS.front 1 rfl
       dsimp only [List.eraseIdx] at HS
       obtain ⟨I2347, bl2348, HS⟩ := HS.unseal (sz := 1) rfl
       refine ⟨⟨HS.nowO, HS.nowN.2, ⟨(HS.mu 43 rfl), (HS.mu 44 rfl), (HS.mu 45 rfl), trivial⟩⟩, _, rfl, ?_⟩
       exact by (
       clear hb
       obtain ⟨t2349, ha2350, H⟩ := bind_some H
       refine dc_ 3 (w_none rfl) func61 (laws_toTable.runs k (⟨x1.f0, x1.f1⟩ : S85) A1_0 c1_0 t2349 _ (HS.getO 2 rfl) hc1_0 ha2350) ?_
       clear ha2350
       rintro _ w2351 ⟨v2352, bl2353, rfl, hO_, hb⟩
       replace HS := HS.got hb hO_
       dsimp only [List.cons_append, List.nil_append] at HS
       clear hO_
       exact by (
       obtain ⟨I2354, bl2355, HS⟩ := HS.unseal (sz := 1) rfl
       replace HS := HS.freezeN 1 (p := (rF kI t2349.f0 I2354)) rfl (fun _ hP_ _ => RepsB.reps hP_)
       dsimp only [List.eraseIdx] at HS
       refine ⟨⟨HS.nowO, HS.nowN.2.2, ⟨(HS.mu 44 rfl), (HS.mu 45 rfl), (HS.mu 46 rfl), trivial⟩⟩, _, rfl, ?_⟩
       clear hb
       obtain ⟨t2356, ha2357, H⟩ := bind_some H
       refine dc_ 5 (w_none rfl) func74 (laws_toCell.runs k (⟨x2.f0, x2.f1⟩ : S98) A2_0 c2_0 A2_1 c2_1 t2356 _ (HS.getO 3 rfl) hc2_0 (HS.getO 4 rfl) hc2_1 ha2357) ?_
       clear ha2357
       exact by (
       rintro _ w2358 ⟨v2359, bl2360, v2361, bl2362, rfl, hO_, hb⟩
       replace HS := HS.got hb hO_
       dsimp only [List.cons_append, List.nil_append] at HS
       clear hO_
       obtain ⟨I2363, bl2364, HS⟩ := HS.unseal (sz := 1) rfl
       replace HS := HS.front 2 rfl
       dsimp only [List.eraseIdx] at HS
       obtain ⟨I2365, bl2366, HS⟩ := HS.unseal (sz := 1) rfl
       exact by (
       refine ⟨⟨HS.nowO, HS.nowN.2.2, ⟨(HS.mu 48 rfl), (HS.mu 49 rfl), (HS.mu 50 rfl), trivial⟩⟩, _, rfl, ?_⟩
       clear hb
       obtain ⟨A2367, c2368, rfl⟩ := row_slice (HS.mu 7 rfl)
       obtain ⟨A2369, c2370, rfl⟩ := row_slice (HS.mu 5 rfl)
       obtain ⟨A2371, c2372, rfl⟩ := row_slice (HS.mu 4 rfl)
       obtain ⟨A2373, c2374, rfl⟩ := row_slice (HS.mu 2 rfl)
       obtain ⟨A2375, c2376, rfl⟩ := row_slice (HS.mu 0 rfl)
       obtain ⟨t2377, ha2378, H⟩ := bind_some H
       exact by (
       refine dc_ 6 (w_none rfl) func45 (impl_AddCell.runs k t2338 A2367 c2368 A2369 c2370 t2349 A2371 c2372 t2356 A2373 c2374 A2375 c2376 t2377.1 t2377.2.1 t2377.2.2 _ (row_C rfl (HS.mu 7 rfl) (HS.getN 1 rfl)) (row_le (HS.mu 7 rfl)) (row_C rfl (HS.mu 5 rfl) (HS.elsK 6 rfl)) (row_le (HS.mu 5 rfl)) (row_C rfl (HS.mu 4 rfl) (HS.getN 0 rfl)) (row_le (HS.mu 4 rfl)) (row_C rfl (HS.mu 2 rfl) (HS.elsK 3 rfl)) (row_le (HS.mu 2 rfl)) (row_C rfl (HS.mu 0 rfl) (HS.elsK 1 rfl)) (row_le (HS.mu 0 rfl)) ha2378) ?_
       clear ha2378
       rintro _ w2379 ⟨v2380, bl2381, v2382, bl2383, v2384, bl2385, rfl, hO_, hb⟩
       replace HS := HS.got hb hO_
       dsimp only [List.cons_append, List.nil_append] at HS
       clear hO_
       obtain ⟨I2386, bl2387, HS⟩ := HS.unseal (sz := 1) rfl
       replace HS := HS.freezeN 1 (p := (rF kI t2377.1.f0 I2386)) rfl (fun _ hP_ _ => RepsB.reps hP_)
       exact by (
       dsimp only [List.eraseIdx] at HS
       replace HS := HS.front 1 rfl
       dsimp only [List.eraseIdx] at HS
       obtain ⟨I2388, bl2389, HS⟩ := HS.unseal (sz := 1) rfl
       replace HS := HS.front 3 rfl
       dsimp only [List.eraseIdx] at HS
       obtain ⟨I2390, bl2391, HS⟩ := HS.unseal (sz := 1) rfl
       replace HS := HS.freezeN 1 (p := (rF kI t2377.2.1.f0 I2390)) rfl (fun _ hP_ _ => RepsB.reps hP_)
       exact by (
       dsimp only [List.eraseIdx] at HS
       refine ⟨⟨HS.nowO, HS.nowN.2.2.2.2, ⟨(HS.mu 52 rfl), (HS.mu 53 rfl), (HS.mu 54 rfl), trivial⟩⟩, _, rfl, ?_⟩
       clear hb
       refine dm_ 7 ?_
       refine dp_ 8 (fun _ => Run.extract rfl rfl rfl) ?_
       refine dp_ 9 (fun _ => Run.extract rfl rfl rfl) ?_
       refine dp_ 10 (fun _ => Run.extract rfl rfl rfl) ?_
       exact useWD X1469 ⟨b2168, b2336, A2367, t2338, c2368, A2369, c2370, A2371, t2349, c2372, A2373, t2356, c2374, A2375, c2376, v2380, v2382, v2384, t2377, I2390, I2388, bl2389, I2386, I2365, bl2366, I2363, bl2364, I2354, I2347, bl2348, I2345, rfl, H, (St.sel HS [12, 13, 0, 1, 2, 3, 4, 5, 6, 7, 8, 9, 10, 11, 14, 15, 16, 17, 18, 19, 20, 21, 22, 23, 24, 25, 26, 27, 28, 29, 30, 31, 32, 33, 34, 35, 36, 37, 38, 39, 40, 41, 42, 43, 44, 45, 46, 47, 48, 49, 50, 51, 52, 53, 54])⟩ ))))))))))
   · have HT_ := True.intro
     exact by (
     refine WDo.alloc (v := .agg #[sn, vi 0]) (cs := #[sn, vi 0]) 12 (w_none rfl) HS rfl (by kernel_rfl) rfl (fun b2392 w2393 hb2392 HS => ?_)
     refine ⟨⟨HS.nowO, HS.nowN, ⟨(HS.mu 39 rfl), (HS.mu 40 rfl), (HS.mu 41 rfl), trivial⟩⟩, ?_⟩
     refine two__ 1 11 ?_ ?_
     · have HT_ := True.intro
       obtain ⟨t2394, ha2395, H⟩ := bind_some H
       refine dco_ 1 (w_none rfl) func60 (laws_toStore.runs k (⟨x0.f0, x0.f1⟩ : S84) A0_0 c0_0 A0_1 c0_1 t2394 _ (HS.getO 0 rfl) hc0_0 (HS.getO 1 rfl) hc0_1 ha2395) ?_
       clear ha2395
       rintro _ w2396 ⟨v2397, bl2398, v2399, bl2400, rfl, hO_, hb⟩
       exact by (
       replace HS := HS.got hb hO_
       dsimp only [List.cons_append, List.nil_append] at HS
       clear hO_
       obtain ⟨I2401, bl2402, HS⟩ := HS.unseal (sz := 1) rfl
       replace HS := HS.freezeN 1 (p := (rF kI t2394.f0 I2401)) rfl (fun _ hP_ _ => RepsB.reps hP_)
       dsimp only [List.eraseIdx] at HS
       replace HS := HS.front 1 rfl
       dsimp only [List.eraseIdx] at HS
       exact by (
       obtain ⟨I2403, bl2404, HS⟩ := HS.unseal (sz := 1) rfl
       refine ⟨⟨HS.nowO, HS.nowN.2, ⟨(HS.mu 42 rfl), (HS.mu 43 rfl), (HS.mu 44 rfl), trivial⟩⟩, _, rfl, ?_⟩
       clear hb
       refine two__ 3 11 ?_ ?_
       · have HT_ := True.intro
         obtain ⟨t2405, ha2406, H⟩ := bind_some H
         refine dco_ 3 (w_none rfl) func61 (laws_toTable.runs k (⟨x1.f0, x1.f1⟩ : S85) A1_0 c1_0 t2405 _ (HS.getO 2 rfl) hc1_0 ha2406) ?_
         clear ha2406
         exact by (
         rintro _ w2407 ⟨v2408, bl2409, rfl, hO_, hb⟩
         replace HS := HS.got hb hO_
         dsimp only [List.cons_append, List.nil_append] at HS
         clear hO_
         obtain ⟨I2410, bl2411, HS⟩ := HS.unseal (sz := 1) rfl
         replace HS := HS.freezeN 1 (p := (rF kI t2405.f0 I2410)) rfl (fun _ hP_ _ => RepsB.reps hP_)
         dsimp only [List.eraseIdx] at HS
         refine ⟨⟨HS.nowO, HS.nowN.2.2, ⟨(HS.mu 43 rfl), (HS.mu 44 rfl), (HS.mu 45 rfl), trivial⟩⟩, _, rfl, ?_⟩
         exact by (
         clear hb
         refine two__ 5 11 ?_ ?_
         · have HT_ := True.intro
           obtain ⟨t2412, ha2413, H⟩ := bind_some H
           refine dco_ 5 (w_none rfl) func74 (laws_toCell.runs k (⟨x2.f0, x2.f1⟩ : S98) A2_0 c2_0 A2_1 c2_1 t2412 _ (HS.getO 3 rfl) hc2_0 (HS.getO 4 rfl) hc2_1 ha2413) ?_
           clear ha2413
           rintro _ w2414 ⟨v2415, bl2416, v2417, bl2418, rfl, hO_, hb⟩
           replace HS := HS.got hb hO_
           exact by (
           dsimp only [List.cons_append, List.nil_append] at HS
           clear hO_
           obtain ⟨I2419, bl2420, HS⟩ := HS.unseal (sz := 1) rfl
           replace HS := HS.front 2 rfl
           dsimp only [List.eraseIdx] at HS
           obtain ⟨I2421, bl2422, HS⟩ := HS.unseal (sz := 1) rfl
           refine ⟨⟨HS.nowO, HS.nowN.2.2, ⟨(HS.mu 47 rfl), (HS.mu 48 rfl), (HS.mu 49 rfl), trivial⟩⟩, _, rfl, ?_⟩
           clear hb
           exact by (
           refine two__ 6 11 ?_ ?_
           · have HT_ := True.intro
             obtain ⟨A2423, c2424, rfl⟩ := row_slice (HS.mu 7 rfl)
             obtain ⟨A2425, c2426, rfl⟩ := row_slice (HS.mu 5 rfl)
             obtain ⟨A2427, c2428, rfl⟩ := row_slice (HS.mu 4 rfl)
             obtain ⟨A2429, c2430, rfl⟩ := row_slice (HS.mu 2 rfl)
             obtain ⟨A2431, c2432, rfl⟩ := row_slice (HS.mu 0 rfl)
             obtain ⟨t2433, ha2434, H⟩ := bind_some H
             exact by (
             refine dco_ 6 (w_none rfl) func45 (impl_AddCell.runs k t2394 A2423 c2424 A2425 c2426 t2405 A2427 c2428 t2412 A2429 c2430 A2431 c2432 t2433.1 t2433.2.1 t2433.2.2 _ (row_C rfl (HS.mu 7 rfl) (HS.getN 1 rfl)) (row_le (HS.mu 7 rfl)) (row_C rfl (HS.mu 5 rfl) (HS.elsK 6 rfl)) (row_le (HS.mu 5 rfl)) (row_C rfl (HS.mu 4 rfl) (HS.getN 0 rfl)) (row_le (HS.mu 4 rfl)) (row_C rfl (HS.mu 2 rfl) (HS.elsK 3 rfl)) (row_le (HS.mu 2 rfl)) (row_C rfl (HS.mu 0 rfl) (HS.elsK 1 rfl)) (row_le (HS.mu 0 rfl)) ha2434) ?_
             clear ha2434
             rintro _ w2435 ⟨v2436, bl2437, v2438, bl2439, v2440, bl2441, rfl, hO_, hb⟩
             replace HS := HS.got hb hO_
             dsimp only [List.cons_append, List.nil_append] at HS
             clear hO_
             obtain ⟨I2442, bl2443, HS⟩ := HS.unseal (sz := 1) rfl
             replace HS := HS.freezeN 1 (p := (rF kI t2433.1.f0 I2442)) rfl (fun _ hP_ _ => RepsB.reps hP_)
             exact by (
             dsimp only [List.eraseIdx] at HS
             replace HS := HS.front 1 rfl
             dsimp only [List.eraseIdx] at HS
             obtain ⟨I2444, bl2445, HS⟩ := HS.unseal (sz := 1) rfl
             replace HS := HS.front 3 rfl
             dsimp only [List.eraseIdx] at HS
             obtain ⟨I2446, bl2447, HS⟩ := HS.unseal (sz := 1) rfl
             replace HS := HS.freezeN 1 (p := (rF kI t2433.2.1.f0 I2446)) rfl (fun _ hP_ _ => RepsB.reps hP_)
             exact by (
             dsimp only [List.eraseIdx] at HS
             refine ⟨⟨HS.nowO, HS.nowN.2.2.2.2, ⟨(HS.mu 51 rfl), (HS.mu 52 rfl), (HS.mu 53 rfl), trivial⟩⟩, _, rfl, ?_⟩
             clear hb
             refine dm_ 7 ?_
             refine dp_ 8 (fun _ => Run.extract rfl rfl rfl) ?_
             refine dp_ 9 (fun _ => Run.extract rfl rfl rfl) ?_
             refine dp_ 10 (fun _ => Run.extract rfl rfl rfl) ?_
             refine WD.alloc (v := .agg #[sn, sn]) (cs := #[sn, sn]) 11 (w_none rfl) HS rfl (by kernel_rfl) rfl (fun b2448 w2449 hb2448 HS => ?_)
             exact by (
             refine ⟨⟨HS.nowO, HS.nowN.2.2.2.2, ⟨(HS.mu 52 rfl), (HS.mu 53 rfl), (HS.mu 54 rfl), trivial⟩⟩, ?_⟩
             exact useWD X1469 ⟨b2448, b2392, A2423, t2394, c2424, A2425, c2426, A2427, t2405, c2428, A2429, t2412, c2430, A2431, c2432, v2436, v2438, v2440, t2433, I2446, I2444, bl2445, I2442, I2421, bl2422, I2419, bl2420, I2410, I2403, bl2404, I2401, rfl, H, (St.sel HS [13, 0, 1, 2, 3, 4, 5, 6, 7, 8, 9, 10, 11, 12, 14, 15, 16, 17, 18, 19, 20, 21, 22, 23, 24, 25, 26, 27, 28, 29, 30, 31, 32, 33, 34, 35, 36, 37, 38, 39, 40, 41, 42, 43, 44, 45, 46, 47, 48, 49, 50, 51, 52, 53, 54])⟩ ))))
           · have HT_ := True.intro
             refine WDo.alloc (v := .agg #[sn, sn]) (cs := #[sn, sn]) 11 (w_none rfl) HS rfl (by kernel_rfl) rfl (fun b2450 w2451 hb2450 HS => ?_)
             refine ⟨⟨HS.nowO, HS.nowN.2.2, ⟨(HS.mu 48 rfl), (HS.mu 49 rfl), (HS.mu 50 rfl), trivial⟩⟩, ?_⟩
             obtain ⟨A2452, c2453, rfl⟩ := row_slice (HS.mu 8 rfl)
             obtain ⟨A2454, c2455, rfl⟩ := row_slice (HS.mu 6 rfl)
             obtain ⟨A2456, c2457, rfl⟩ := row_slice (HS.mu 5 rfl)
             exact by (
             obtain ⟨A2458, c2459, rfl⟩ := row_slice (HS.mu 3 rfl)
             obtain ⟨A2460, c2461, rfl⟩ := row_slice (HS.mu 1 rfl)
             obtain ⟨t2462, ha2463, H⟩ := bind_some H
             refine dc_ 6 (w_none rfl) func45 (impl_AddCell.runs k t2394 A2452 c2453 A2454 c2455 t2405 A2456 c2457 t2412 A2458 c2459 A2460 c2461 t2462.1 t2462.2.1 t2462.2.2 _ (row_C rfl (HS.mu 8 rfl) (HS.getN 1 rfl)) (row_le (HS.mu 8 rfl)) (row_C rfl (HS.mu 6 rfl) (HS.elsK 7 rfl)) (row_le (HS.mu 6 rfl)) (row_C rfl (HS.mu 5 rfl) (HS.getN 0 rfl)) (row_le (HS.mu 5 rfl)) (row_C rfl (HS.mu 3 rfl) (HS.elsK 4 rfl)) (row_le (HS.mu 3 rfl)) (row_C rfl (HS.mu 1 rfl) (HS.elsK 2 rfl)) (row_le (HS.mu 1 rfl)) ha2463) ?_
             clear ha2463
             rintro _ w2464 ⟨v2465, bl2466, v2467, bl2468, v2469, bl2470, rfl, hO_, hb⟩
             replace HS := HS.got hb hO_
             dsimp only [List.cons_append, List.nil_append] at HS
             exact by (
             clear hO_
             obtain ⟨I2471, bl2472, HS⟩ := HS.unseal (sz := 1) rfl
             replace HS := HS.freezeN 1 (p := (rF kI t2462.1.f0 I2471)) rfl (fun _ hP_ _ => RepsB.reps hP_)
             dsimp only [List.eraseIdx] at HS
             replace HS := HS.front 1 rfl
             dsimp only [List.eraseIdx] at HS
             obtain ⟨I2473, bl2474, HS⟩ := HS.unseal (sz := 1) rfl
             replace HS := HS.front 3 rfl
             exact by (
             dsimp only [List.eraseIdx] at HS
             obtain ⟨I2475, bl2476, HS⟩ := HS.unseal (sz := 1) rfl
             replace HS := HS.freezeN 1 (p := (rF kI t2462.2.1.f0 I2475)) rfl (fun _ hP_ _ => RepsB.reps hP_)
             dsimp only [List.eraseIdx] at HS
             refine ⟨⟨HS.nowO, HS.nowN.2.2.2.2, ⟨(HS.mu 52 rfl), (HS.mu 53 rfl), (HS.mu 54 rfl), trivial⟩⟩, _, rfl, ?_⟩
             clear hb
             refine dm_ 7 ?_
             refine dp_ 8 (fun _ => Run.extract rfl rfl rfl) ?_
             exact by (
             refine dp_ 9 (fun _ => Run.extract rfl rfl rfl) ?_
             refine dp_ 10 (fun _ => Run.extract rfl rfl rfl) ?_
             exact useWD X1469 ⟨b2450, b2392, A2452, t2394, c2453, A2454, c2455, A2456, t2405, c2457, A2458, t2412, c2459, A2460, c2461, v2465, v2467, v2469, t2462, I2475, I2473, bl2474, I2471, I2421, bl2422, I2419, bl2420, I2410, I2403, bl2404, I2401, rfl, H, (St.sel HS [13, 4, 0, 1, 2, 3, 5, 6, 7, 8, 9, 10, 11, 12, 14, 15, 16, 17, 18, 19, 20, 21, 22, 23, 24, 25, 26, 27, 28, 29, 30, 31, 32, 33, 34, 35, 36, 37, 38, 39, 40, 41, 42, 43, 44, 45, 46, 47, 48, 49, 50, 51, 52, 53, 54])⟩ ))))))
         · have HT_ := True.intro
           refine WDo.alloc (v := .agg #[sn, sn]) (cs := #[sn, sn]) 11 (w_none rfl) HS rfl (by kernel_rfl) rfl (fun b2477 w2478 hb2477 HS => ?_)
           refine ⟨⟨HS.nowO, HS.nowN.2.2, ⟨(HS.mu 44 rfl), (HS.mu 45 rfl), (HS.mu 46 rfl), trivial⟩⟩, ?_⟩
           obtain ⟨t2479, ha2480, H⟩ := bind_some H
           refine dc_ 5 (w_none rfl) func74 (laws_toCell.runs k (⟨x2.f0, x2.f1⟩ : S98) A2_0 c2_0 A2_1 c2_1 t2479 _ (HS.getO 3 rfl) hc2_0 (HS.getO 4 rfl) hc2_1 ha2480) ?_
           exact by (
           clear ha2480
           rintro _ w2481 ⟨v2482, bl2483, v2484, bl2485, rfl, hO_, hb⟩
           replace HS := HS.got hb hO_
           dsimp only [List.cons_append, List.nil_append] at HS
           clear hO_
           obtain ⟨I2486, bl2487, HS⟩ := HS.unseal (sz := 1) rfl
           replace HS := HS.front 2 rfl
           dsimp only [List.eraseIdx] at HS
           exact by (
           obtain ⟨I2488, bl2489, HS⟩ := HS.unseal (sz := 1) rfl
           refine ⟨⟨HS.nowO, HS.nowN.2.2, ⟨(HS.mu 48 rfl), (HS.mu 49 rfl), (HS.mu 50 rfl), trivial⟩⟩, _, rfl, ?_⟩
           clear hb
           obtain ⟨A2490, c2491, rfl⟩ := row_slice (HS.mu 8 rfl)
           obtain ⟨A2492, c2493, rfl⟩ := row_slice (HS.mu 6 rfl)
           obtain ⟨A2494, c2495, rfl⟩ := row_slice (HS.mu 5 rfl)
           obtain ⟨A2496, c2497, rfl⟩ := row_slice (HS.mu 2 rfl)
           obtain ⟨A2498, c2499, rfl⟩ := row_slice (HS.mu 0 rfl)
           exact by (
           obtain ⟨t2500, ha2501, H⟩ := bind_some H
           refine dc_ 6 (w_none rfl) func45 (impl_AddCell.runs k t2394 A2490 c2491 A2492 c2493 t2405 A2494 c2495 t2479 A2496 c2497 A2498 c2499 t2500.1 t2500.2.1 t2500.2.2 _ (row_C rfl (HS.mu 8 rfl) (HS.getN 1 rfl)) (row_le (HS.mu 8 rfl)) (row_C rfl (HS.mu 6 rfl) (HS.elsK 7 rfl)) (row_le (HS.mu 6 rfl)) (row_C rfl (HS.mu 5 rfl) (HS.getN 0 rfl)) (row_le (HS.mu 5 rfl)) (row_C rfl (HS.mu 2 rfl) (HS.elsK 3 rfl)) (row_le (HS.mu 2 rfl)) (row_C rfl (HS.mu 0 rfl) (HS.elsK 1 rfl)) (row_le (HS.mu 0 rfl)) ha2501) ?_
           clear ha2501
           rintro _ w2502 ⟨v2503, bl2504, v2505, bl2506, v2507, bl2508, rfl, hO_, hb⟩
           replace HS := HS.got hb hO_
           dsimp only [List.cons_append, List.nil_append] at HS
           clear hO_
           obtain ⟨I2509, bl2510, HS⟩ := HS.unseal (sz := 1) rfl
           exact by (
           replace HS := HS.freezeN 1 (p := (rF kI t2500.1.f0 I2509)) rfl (fun _ hP_ _ => RepsB.reps hP_)
           dsimp only [List.eraseIdx] at HS
           replace HS := HS.front 1 rfl
           dsimp only [List.eraseIdx] at HS
           obtain ⟨I2511, bl2512, HS⟩ := HS.unseal (sz := 1) rfl
           replace HS := HS.front 3 rfl
           dsimp only [List.eraseIdx] at HS
           obtain ⟨I2513, bl2514, HS⟩ := HS.unseal (sz := 1) rfl
           exact by (
           replace HS := HS.freezeN 1 (p := (rF kI t2500.2.1.f0 I2513)) rfl (fun _ hP_ _ => RepsB.reps hP_)
           dsimp only [List.eraseIdx] at HS
           refine ⟨⟨HS.nowO, HS.nowN.2.2.2.2, ⟨(HS.mu 52 rfl), (HS.mu 53 rfl), (HS.mu 54 rfl), trivial⟩⟩, _, rfl, ?_⟩
           clear hb
           refine dm_ 7 ?_
           refine dp_ 8 (fun _ => Run.extract rfl rfl rfl) ?_
           refine dp_ 9 (fun _ => Run.extract rfl rfl rfl) ?_
           refine dp_ 10 (fun _ => Run.extract rfl rfl rfl) ?_
           exact useWD X1469 ⟨b2477, b2392, A2490, t2394, c2491, A2492, c2493, A2494, t2405, c2495, A2496, t2479, c2497, A2498, c2499, v2503, v2505, v2507, t2500, I2513, I2511, bl2512, I2509, I2488, bl2489, I2486, bl2487, I2410, I2403, bl2404, I2401, rfl, H, (St.sel HS [13, 8, 0, 1, 2, 3, 4, 5, 6, 7, 9, 10, 11, 12, 14, 15, 16, 17, 18, 19, 20, 21, 22, 23, 24, 25, 26, 27, 28, 29, 30, 31, 32, 33, 34, 35, 36, 37, 38, 39, 40, 41, 42, 43, 44, 45, 46, 47, 48, 49, 50, 51, 52, 53, 54])⟩ )))))))
       · have HT_ := True.intro
         exact by (
         refine WDo.alloc (v := .agg #[sn, sn]) (cs := #[sn, sn]) 11 (w_none rfl) HS rfl (by kernel_rfl) rfl (fun b2515 w2516 hb2515 HS => ?_)
         refine ⟨⟨HS.nowO, HS.nowN.2, ⟨(HS.mu 43 rfl), (HS.mu 44 rfl), (HS.mu 45 rfl), trivial⟩⟩, ?_⟩
         obtain ⟨t2517, ha2518, H⟩ := bind_some H
         refine dc_ 3 (w_none rfl) func61 (laws_toTable.runs k (⟨x1.f0, x1.f1⟩ : S85) A1_0 c1_0 t2517 _ (HS.getO 2 rfl) hc1_0 ha2518) ?_
         clear ha2518
         rintro _ w2519 ⟨v2520, bl2521, rfl, hO_, hb⟩
         replace HS := HS.got hb hO_
         dsimp only [List.cons_append, List.nil_append] at HS
         exact by (
         clear hO_
         obtain ⟨I2522, bl2523, HS⟩ := HS.unseal (sz := 1) rfl
         replace HS := HS.freezeN 1 (p := (rF kI t2517.f0 I2522)) rfl (fun _ hP_ _ => RepsB.reps hP_)
         dsimp only [List.eraseIdx] at HS
         refine ⟨⟨HS.nowO, HS.nowN.2.2, ⟨(HS.mu 44 rfl), (HS.mu 45 rfl), (HS.mu 46 rfl), trivial⟩⟩, _, rfl, ?_⟩
         clear hb
         obtain ⟨t2524, ha2525, H⟩ := bind_some H
         refine dc_ 5 (w_none rfl) func74 (laws_toCell.runs k (⟨x2.f0, x2.f1⟩ : S98) A2_0 c2_0 A2_1 c2_1 t2524 _ (HS.getO 3 rfl) hc2_0 (HS.getO 4 rfl) hc2_1 ha2525) ?_
         exact by (
         clear ha2525
         rintro _ w2526 ⟨v2527, bl2528, v2529, bl2530, rfl, hO_, hb⟩
         replace HS := HS.got hb hO_
         dsimp only [List.cons_append, List.nil_append] at HS
         clear hO_
         obtain ⟨I2531, bl2532, HS⟩ := HS.unseal (sz := 1) rfl
         replace HS := HS.front 2 rfl
         dsimp only [List.eraseIdx] at HS
         exact by (
         obtain ⟨I2533, bl2534, HS⟩ := HS.unseal (sz := 1) rfl
         refine ⟨⟨HS.nowO, HS.nowN.2.2, ⟨(HS.mu 48 rfl), (HS.mu 49 rfl), (HS.mu 50 rfl), trivial⟩⟩, _, rfl, ?_⟩
         clear hb
         obtain ⟨A2535, c2536, rfl⟩ := row_slice (HS.mu 8 rfl)
         obtain ⟨A2537, c2538, rfl⟩ := row_slice (HS.mu 6 rfl)
         obtain ⟨A2539, c2540, rfl⟩ := row_slice (HS.mu 4 rfl)
         obtain ⟨A2541, c2542, rfl⟩ := row_slice (HS.mu 2 rfl)
         obtain ⟨A2543, c2544, rfl⟩ := row_slice (HS.mu 0 rfl)
         exact by (
         obtain ⟨t2545, ha2546, H⟩ := bind_some H
         refine dc_ 6 (w_none rfl) func45 (impl_AddCell.runs k t2394 A2535 c2536 A2537 c2538 t2517 A2539 c2540 t2524 A2541 c2542 A2543 c2544 t2545.1 t2545.2.1 t2545.2.2 _ (row_C rfl (HS.mu 8 rfl) (HS.getN 1 rfl)) (row_le (HS.mu 8 rfl)) (row_C rfl (HS.mu 6 rfl) (HS.elsK 7 rfl)) (row_le (HS.mu 6 rfl)) (row_C rfl (HS.mu 4 rfl) (HS.getN 0 rfl)) (row_le (HS.mu 4 rfl)) (row_C rfl (HS.mu 2 rfl) (HS.elsK 3 rfl)) (row_le (HS.mu 2 rfl)) (row_C rfl (HS.mu 0 rfl) (HS.elsK 1 rfl)) (row_le (HS.mu 0 rfl)) ha2546) ?_
         clear ha2546
         rintro _ w2547 ⟨v2548, bl2549, v2550, bl2551, v2552, bl2553, rfl, hO_, hb⟩
         replace HS := HS.got hb hO_
         dsimp only [List.cons_append, List.nil_append] at HS
         clear hO_
         obtain ⟨I2554, bl2555, HS⟩ := HS.unseal (sz := 1) rfl
         exact by (
         replace HS := HS.freezeN 1 (p := (rF kI t2545.1.f0 I2554)) rfl (fun _ hP_ _ => RepsB.reps hP_)
         dsimp only [List.eraseIdx] at HS
         replace HS := HS.front 1 rfl
         dsimp only [List.eraseIdx] at HS
         obtain ⟨I2556, bl2557, HS⟩ := HS.unseal (sz := 1) rfl
         replace HS := HS.front 3 rfl
         dsimp only [List.eraseIdx] at HS
         obtain ⟨I2558, bl2559, HS⟩ := HS.unseal (sz := 1) rfl
         exact by (
         replace HS := HS.freezeN 1 (p := (rF kI t2545.2.1.f0 I2558)) rfl (fun _ hP_ _ => RepsB.reps hP_)
         dsimp only [List.eraseIdx] at HS
         refine ⟨⟨HS.nowO, HS.nowN.2.2.2.2, ⟨(HS.mu 52 rfl), (HS.mu 53 rfl), (HS.mu 54 rfl), trivial⟩⟩, _, rfl, ?_⟩
         clear hb
         refine dm_ 7 ?_
         refine dp_ 8 (fun _ => Run.extract rfl rfl rfl) ?_
         refine dp_ 9 (fun _ => Run.extract rfl rfl rfl) ?_
         refine dp_ 10 (fun _ => Run.extract rfl rfl rfl) ?_
         exact useWD X1469 ⟨b2515, b2392, A2535, t2394, c2536, A2537, c2538, A2539, t2517, c2540, A2541, t2524, c2542, A2543, c2544, v2548, v2550, v2552, t2545, I2558, I2556, bl2557, I2554, I2533, bl2534, I2531, bl2532, I2522, I2403, bl2404, I2401, rfl, H, (St.sel HS [13, 9, 0, 1, 2, 3, 4, 5, 6, 7, 8, 10, 11, 12, 14, 15, 16, 17, 18, 19, 20, 21, 22, 23, 24, 25, 26, 27, 28, 29, 30, 31, 32, 33, 34, 35, 36, 37, 38, 39, 40, 41, 42, 43, 44, 45, 46, 47, 48, 49, 50, 51, 52, 53, 54])⟩ )))))))))
     · have HT_ := True.intro
       exact by (
       refine WDo.alloc (v := .agg #[sn, sn]) (cs := #[sn, sn]) 11 (w_none rfl) HS rfl (by kernel_rfl) rfl (fun b2560 w2561 hb2560 HS => ?_)
       refine ⟨⟨HS.nowO, HS.nowN, ⟨(HS.mu 40 rfl), (HS.mu 41 rfl), (HS.mu 42 rfl), trivial⟩⟩, ?_⟩
       obtain ⟨t2562, ha2563, H⟩ := bind_some H
       refine dc_ 1 (w_none rfl) func60 (laws_toStore.runs k (⟨x0.f0, x0.f1⟩ : S84) A0_0 c0_0 A0_1 c0_1 t2562 _ (HS.getO 0 rfl) hc0_0 (HS.getO 1 rfl) hc0_1 ha2563) ?_
       clear ha2563
       rintro _ w2564 ⟨v2565, bl2566, v2567, bl2568, rfl, hO_, hb⟩
       replace HS := HS.got hb hO_
       dsimp only [List.cons_append, List.nil_append] at HS
       exact by (
       clear hO_
       obtain ⟨I2569, bl2570, HS⟩ := HS.unseal (sz := 1) rfl
       replace HS := HS.freezeN 1 (p := (rF kI t2562.f0 I2569)) rfl (fun _ hP_ _ => RepsB.reps hP_)
       dsimp only [List.eraseIdx] at HS
       replace HS := HS.front 1 rfl
       dsimp only [List.eraseIdx] at HS
       obtain ⟨I2571, bl2572, HS⟩ := HS.unseal (sz := 1) rfl
       refine ⟨⟨HS.nowO, HS.nowN.2, ⟨(HS.mu 43 rfl), (HS.mu 44 rfl), (HS.mu 45 rfl), trivial⟩⟩, _, rfl, ?_⟩
       exact by (
       clear hb
       obtain ⟨t2573, ha2574, H⟩ := bind_some H
       refine dc_ 3 (w_none rfl) func61 (laws_toTable.runs k (⟨x1.f0, x1.f1⟩ : S85) A1_0 c1_0 t2573 _ (HS.getO 2 rfl) hc1_0 ha2574) ?_
       clear ha2574
       rintro _ w2575 ⟨v2576, bl2577, rfl, hO_, hb⟩
       replace HS := HS.got hb hO_
       dsimp only [List.cons_append, List.nil_append] at HS
       clear hO_
       exact by (
       obtain ⟨I2578, bl2579, HS⟩ := HS.unseal (sz := 1) rfl
       replace HS := HS.freezeN 1 (p := (rF kI t2573.f0 I2578)) rfl (fun _ hP_ _ => RepsB.reps hP_)
       dsimp only [List.eraseIdx] at HS
       refine ⟨⟨HS.nowO, HS.nowN.2.2, ⟨(HS.mu 44 rfl), (HS.mu 45 rfl), (HS.mu 46 rfl), trivial⟩⟩, _, rfl, ?_⟩
       clear hb
       obtain ⟨t2580, ha2581, H⟩ := bind_some H
       refine dc_ 5 (w_none rfl) func74 (laws_toCell.runs k (⟨x2.f0, x2.f1⟩ : S98) A2_0 c2_0 A2_1 c2_1 t2580 _ (HS.getO 3 rfl) hc2_0 (HS.getO 4 rfl) hc2_1 ha2581) ?_
       clear ha2581
       exact by (
       rintro _ w2582 ⟨v2583, bl2584, v2585, bl2586, rfl, hO_, hb⟩
       replace HS := HS.got hb hO_
       dsimp only [List.cons_append, List.nil_append] at HS
       clear hO_
       obtain ⟨I2587, bl2588, HS⟩ := HS.unseal (sz := 1) rfl
       replace HS := HS.front 2 rfl
       dsimp only [List.eraseIdx] at HS
       obtain ⟨I2589, bl2590, HS⟩ := HS.unseal (sz := 1) rfl
       exact by (
       refine ⟨⟨HS.nowO, HS.nowN.2.2, ⟨(HS.mu 48 rfl), (HS.mu 49 rfl), (HS.mu 50 rfl), trivial⟩⟩, _, rfl, ?_⟩
       clear hb
       obtain ⟨A2591, c2592, rfl⟩ := row_slice (HS.mu 7 rfl)
       obtain ⟨A2593, c2594, rfl⟩ := row_slice (HS.mu 5 rfl)
       obtain ⟨A2595, c2596, rfl⟩ := row_slice (HS.mu 4 rfl)
       obtain ⟨A2597, c2598, rfl⟩ := row_slice (HS.mu 2 rfl)
       obtain ⟨A2599, c2600, rfl⟩ := row_slice (HS.mu 0 rfl)
       obtain ⟨t2601, ha2602, H⟩ := bind_some H
       exact by (
       refine dc_ 6 (w_none rfl) func45 (impl_AddCell.runs k t2562 A2591 c2592 A2593 c2594 t2573 A2595 c2596 t2580 A2597 c2598 A2599 c2600 t2601.1 t2601.2.1 t2601.2.2 _ (row_C rfl (HS.mu 7 rfl) (HS.getN 1 rfl)) (row_le (HS.mu 7 rfl)) (row_C rfl (HS.mu 5 rfl) (HS.elsK 6 rfl)) (row_le (HS.mu 5 rfl)) (row_C rfl (HS.mu 4 rfl) (HS.getN 0 rfl)) (row_le (HS.mu 4 rfl)) (row_C rfl (HS.mu 2 rfl) (HS.elsK 3 rfl)) (row_le (HS.mu 2 rfl)) (row_C rfl (HS.mu 0 rfl) (HS.elsK 1 rfl)) (row_le (HS.mu 0 rfl)) ha2602) ?_
       clear ha2602
       rintro _ w2603 ⟨v2604, bl2605, v2606, bl2607, v2608, bl2609, rfl, hO_, hb⟩
       replace HS := HS.got hb hO_
       dsimp only [List.cons_append, List.nil_append] at HS
       clear hO_
       obtain ⟨I2610, bl2611, HS⟩ := HS.unseal (sz := 1) rfl
       replace HS := HS.freezeN 1 (p := (rF kI t2601.1.f0 I2610)) rfl (fun _ hP_ _ => RepsB.reps hP_)
       exact by (
       dsimp only [List.eraseIdx] at HS
       replace HS := HS.front 1 rfl
       dsimp only [List.eraseIdx] at HS
       obtain ⟨I2612, bl2613, HS⟩ := HS.unseal (sz := 1) rfl
       replace HS := HS.front 3 rfl
       dsimp only [List.eraseIdx] at HS
       obtain ⟨I2614, bl2615, HS⟩ := HS.unseal (sz := 1) rfl
       replace HS := HS.freezeN 1 (p := (rF kI t2601.2.1.f0 I2614)) rfl (fun _ hP_ _ => RepsB.reps hP_)
       exact by (
       dsimp only [List.eraseIdx] at HS
       refine ⟨⟨HS.nowO, HS.nowN.2.2.2.2, ⟨(HS.mu 52 rfl), (HS.mu 53 rfl), (HS.mu 54 rfl), trivial⟩⟩, _, rfl, ?_⟩
       clear hb
       refine dm_ 7 ?_
       refine dp_ 8 (fun _ => Run.extract rfl rfl rfl) ?_
       refine dp_ 9 (fun _ => Run.extract rfl rfl rfl) ?_
       refine dp_ 10 (fun _ => Run.extract rfl rfl rfl) ?_
       exact useWD X1469 ⟨b2560, b2392, A2591, t2562, c2592, A2593, c2594, A2595, t2573, c2596, A2597, t2580, c2598, A2599, c2600, v2604, v2606, v2608, t2601, I2614, I2612, bl2613, I2610, I2589, bl2590, I2587, bl2588, I2578, I2571, bl2572, I2569, rfl, H, (St.sel HS [13, 12, 0, 1, 2, 3, 4, 5, 6, 7, 8, 9, 10, 11, 14, 15, 16, 17, 18, 19, 20, 21, 22, 23, 24, 25, 26, 27, 28, 29, 30, 31, 32, 33, 34, 35, 36, 37, 38, 39, 40, 41, 42, 43, 44, 45, 46, 47, 48, 49, 50, 51, 52, 53, 54])⟩ )))))))))))))))))))))))))))))))))))))))))))))))))))))))))))))))))))))))))))))))))))))))))))
 exact by (
 refine three__ 1 11 12 ?_ ?_ ?_
 · have HT_ := True.intro
   obtain ⟨t36, ha37, H⟩ := bind_some H
   refine dco_ 1 (w_none rfl) func60 (laws_toStore.runs k (⟨x0.f0, x0.f1⟩ : S84) A0_0 c0_0 A0_1 c0_1 t36 _ (HS.getO 0 rfl) hc0_0 (HS.getO 1 rfl) hc0_1 ha37) ?_
   clear ha37
   rintro _ w38 ⟨v39, bl40, v41, bl42, rfl, hO_, hb⟩
   replace HS := HS.got hb hO_
   dsimp only [List.cons_append, List.nil_append] at HS
   exact by (
   clear hO_
   obtain ⟨I43, bl44, HS⟩ := HS.unseal (sz := 1) rfl
   replace HS := HS.freezeN 1 (p := (rF kI t36.f0 I43)) rfl (fun _ hP_ _ => RepsB.reps hP_)
   dsimp only [List.eraseIdx] at HS
   replace HS := HS.front 1 rfl
   dsimp only [List.eraseIdx] at HS
   obtain ⟨I45, bl46, HS⟩ := HS.unseal (sz := 1) rfl
   refine ⟨⟨HS.nowO, HS.nowN.2, ⟨(HS.mu 3 rfl), (HS.mu 4 rfl), (HS.mu 5 rfl), trivial⟩⟩, _, rfl, ?_⟩
   exact by (
   clear hb
   refine three__ 3 11 12 ?_ ?_ ?_
   · have HT_ := True.intro
     obtain ⟨t47, ha48, H⟩ := bind_some H
     refine dco_ 3 (w_none rfl) func61 (laws_toTable.runs k (⟨x1.f0, x1.f1⟩ : S85) A1_0 c1_0 t47 _ (HS.getO 2 rfl) hc1_0 ha48) ?_
     clear ha48
     rintro _ w49 ⟨v50, bl51, rfl, hO_, hb⟩
     replace HS := HS.got hb hO_
     exact by (
     dsimp only [List.cons_append, List.nil_append] at HS
     clear hO_
     obtain ⟨I52, bl53, HS⟩ := HS.unseal (sz := 1) rfl
     replace HS := HS.freezeN 1 (p := (rF kI t47.f0 I52)) rfl (fun _ hP_ _ => RepsB.reps hP_)
     dsimp only [List.eraseIdx] at HS
     refine ⟨⟨HS.nowO, HS.nowN.2.2, ⟨(HS.mu 4 rfl), (HS.mu 5 rfl), (HS.mu 6 rfl), trivial⟩⟩, _, rfl, ?_⟩
     clear hb
     refine three__ 5 11 12 ?_ ?_ ?_
     · have HT_ := True.intro
       exact by (
       obtain ⟨t54, ha55, H⟩ := bind_some H
       refine dco_ 5 (w_none rfl) func74 (laws_toCell.runs k (⟨x2.f0, x2.f1⟩ : S98) A2_0 c2_0 A2_1 c2_1 t54 _ (HS.getO 3 rfl) hc2_0 (HS.getO 4 rfl) hc2_1 ha55) ?_
       clear ha55
       rintro _ w56 ⟨v57, bl58, v59, bl60, rfl, hO_, hb⟩
       replace HS := HS.got hb hO_
       dsimp only [List.cons_append, List.nil_append] at HS
       clear hO_
       obtain ⟨I61, bl62, HS⟩ := HS.unseal (sz := 1) rfl
       exact by (
       replace HS := HS.front 2 rfl
       dsimp only [List.eraseIdx] at HS
       obtain ⟨I63, bl64, HS⟩ := HS.unseal (sz := 1) rfl
       refine ⟨⟨HS.nowO, HS.nowN.2.2, ⟨(HS.mu 8 rfl), (HS.mu 9 rfl), (HS.mu 10 rfl), trivial⟩⟩, _, rfl, ?_⟩
       clear hb
       refine three__ 6 11 12 ?_ ?_ ?_
       · have HT_ := True.intro
         obtain ⟨A65, c66, rfl⟩ := row_slice (HS.mu 7 rfl)
         exact by (
         obtain ⟨A67, c68, rfl⟩ := row_slice (HS.mu 5 rfl)
         obtain ⟨A69, c70, rfl⟩ := row_slice (HS.mu 4 rfl)
         obtain ⟨A71, c72, rfl⟩ := row_slice (HS.mu 2 rfl)
         obtain ⟨A73, c74, rfl⟩ := row_slice (HS.mu 0 rfl)
         obtain ⟨t75, ha76, H⟩ := bind_some H
         refine dco_ 6 (w_none rfl) func46 (spec_AddCell.runs k t36 A65 c66 A67 c68 t47 A69 c70 t54 A71 c72 A73 c74 t75.1 t75.2.1 t75.2.2 _ (row_C rfl (HS.mu 7 rfl) (HS.getN 1 rfl)) (row_le (HS.mu 7 rfl)) (row_C rfl (HS.mu 5 rfl) (HS.elsK 6 rfl)) (row_le (HS.mu 5 rfl)) (row_C rfl (HS.mu 4 rfl) (HS.getN 0 rfl)) (row_le (HS.mu 4 rfl)) (row_C rfl (HS.mu 2 rfl) (HS.elsK 3 rfl)) (row_le (HS.mu 2 rfl)) (row_C rfl (HS.mu 0 rfl) (HS.elsK 1 rfl)) (row_le (HS.mu 0 rfl)) ha76) ?_
         clear ha76
         rintro _ w77 ⟨A78, c79, A82, c83, A86, c87, rfl, le80, hf81, le84, hf85, le88, hf89, hb⟩
         exact by (
         replace HS := HS.newNs hb (foot_cons hf81 (foot_cons hf85 (foot_cons hf89 foot_nil)))
         refine ⟨⟨HS.nowO, HS.nowN.2.2.2.2.2, ⟨(HS.mu 8 rfl), (HS.mu 9 rfl), (HS.mu 10 rfl), trivial⟩⟩, _, rfl, ?_⟩
         clear hb
         refine dm_ 7 ?_
         refine dp_ 8 (fun _ => Run.extract rfl rfl rfl) ?_
         refine dp_ 9 (fun _ => Run.extract rfl rfl rfl) ?_
         refine dp_ 10 (fun _ => Run.extract rfl rfl rfl) ?_
         refine two__ 11 12 ?_ ?_
         · have HT_ := True.intro
           exact by (
           refine WDo.alloc (v := .agg #[sn, sn]) (cs := #[sn, sn]) 11 (w_none rfl) HS rfl (by kernel_rfl) rfl (fun b90 w91 hb90 HS => ?_)
           refine ⟨⟨HS.nowO, HS.nowN.2.2.2.2.2, ⟨(HS.mu 9 rfl), (HS.mu 10 rfl), (HS.mu 11 rfl), trivial⟩⟩, ?_⟩
           refine WD.alloc (v := .agg #[sn, vi 0]) (cs := #[sn, vi 0]) 12 (w_none rfl) HS rfl (by kernel_rfl) rfl (fun b92 w93 hb92 HS => ?_)
           refine ⟨⟨HS.nowO, HS.nowN.2.2.2.2.2, ⟨(HS.mu 10 rfl), (HS.mu 11 rfl), (HS.mu 12 rfl), trivial⟩⟩, ?_⟩
           exact useWD X35 ⟨b90, b92, A65, t36, c66, A67, c68, A69, t47, c70, A71, t54, c72, A73, c74, A78, t75, c79, A82, c83, A86, c87, I63, bl64, I61, bl62, I52, I45, bl46, I43, rfl, H, le80, le84, le88, HS⟩ )
         · have HT_ := True.intro
           refine WDo.alloc (v := .agg #[sn, vi 0]) (cs := #[sn, vi 0]) 12 (w_none rfl) HS rfl (by kernel_rfl) rfl (fun b94 w95 hb94 HS => ?_)
           refine ⟨⟨HS.nowO, HS.nowN.2.2.2.2.2, ⟨(HS.mu 9 rfl), (HS.mu 10 rfl), (HS.mu 11 rfl), trivial⟩⟩, ?_⟩
           exact by (
           refine WD.alloc (v := .agg #[sn, sn]) (cs := #[sn, sn]) 11 (w_none rfl) HS rfl (by kernel_rfl) rfl (fun b96 w97 hb96 HS => ?_)
           refine ⟨⟨HS.nowO, HS.nowN.2.2.2.2.2, ⟨(HS.mu 10 rfl), (HS.mu 11 rfl), (HS.mu 12 rfl), trivial⟩⟩, ?_⟩
           exact useWD X35 ⟨b96, b94, A65, t36, c66, A67, c68, A69, t47, c70, A71, t54, c72, A73, c74, A78, t75, c79, A82, c83, A86, c87, I63, bl64, I61, bl62, I52, I45, bl46, I43, rfl, H, le80, le84, le88, (St.sel HS [1, 0, 2, 3, 4, 5, 6, 7, 8, 9, 10, 11, 12])⟩ )))
       · have HT_ := True.intro
         refine WDo.alloc (v := .agg #[sn, sn]) (cs := #[sn, sn]) 11 (w_none rfl) HS rfl (by kernel_rfl) rfl (fun b98 w99 hb98 HS => ?_)
         refine ⟨⟨HS.nowO, HS.nowN.2.2, ⟨(HS.mu 9 rfl), (HS.mu 10 rfl), (HS.mu 11 rfl), trivial⟩⟩, ?_⟩
         refine two__ 6 12 ?_ ?_
         · have HT_ := True.intro
           exact by (
           obtain ⟨A100, c101, rfl⟩ := row_slice (HS.mu 8 rfl)
           obtain ⟨A102, c103, rfl⟩ := row_slice (HS.mu 6 rfl)
           obtain ⟨A104, c105, rfl⟩ := row_slice (HS.mu 5 rfl)
           obtain ⟨A106, c107, rfl⟩ := row_slice (HS.mu 3 rfl)
           obtain ⟨A108, c109, rfl⟩ := row_slice (HS.mu 1 rfl)
           obtain ⟨t110, ha111, H⟩ := bind_some H
           refine dco_ 6 (w_none rfl) func46 (spec_AddCell.runs k t36 A100 c101 A102 c103 t47 A104 c105 t54 A106 c107 A108 c109 t110.1 t110.2.1 t110.2.2 _ (row_C rfl (HS.mu 8 rfl) (HS.getN 1 rfl)) (row_le (HS.mu 8 rfl)) (row_C rfl (HS.mu 6 rfl) (HS.elsK 7 rfl)) (row_le (HS.mu 6 rfl)) (row_C rfl (HS.mu 5 rfl) (HS.getN 0 rfl)) (row_le (HS.mu 5 rfl)) (row_C rfl (HS.mu 3 rfl) (HS.elsK 4 rfl)) (row_le (HS.mu 3 rfl)) (row_C rfl (HS.mu 1 rfl) (HS.elsK 2 rfl)) (row_le (HS.mu 1 rfl)) ha111) ?_
           clear ha111
           exact by (
           rintro _ w112 ⟨A113, c114, A117, c118, A121, c122, rfl, le115, hf116, le119, hf120, le123, hf124, hb⟩
           replace HS := HS.newNs hb (foot_cons hf116 (foot_cons hf120 (foot_cons hf124 foot_nil)))
           refine ⟨⟨HS.nowO, HS.nowN.2.2.2.2.2, ⟨(HS.mu 9 rfl), (HS.mu 10 rfl), (HS.mu 11 rfl), trivial⟩⟩, _, rfl, ?_⟩
           clear hb
           refine dm_ 7 ?_
           refine dp_ 8 (fun _ => Run.extract rfl rfl rfl) ?_
           refine dp_ 9 (fun _ => Run.extract rfl rfl rfl) ?_
           refine dp_ 10 (fun _ => Run.extract rfl rfl rfl) ?_
           exact by (
           refine WD.alloc (v := .agg #[sn, vi 0]) (cs := #[sn, vi 0]) 12 (w_none rfl) HS rfl (by kernel_rfl) rfl (fun b125 w126 hb125 HS => ?_)
           refine ⟨⟨HS.nowO, HS.nowN.2.2.2.2.2, ⟨(HS.mu 10 rfl), (HS.mu 11 rfl), (HS.mu 12 rfl), trivial⟩⟩, ?_⟩
           exact useWD X35 ⟨b98, b125, A100, t36, c101, A102, c103, A104, t47, c105, A106, t54, c107, A108, c109, A113, t110, c114, A117, c118, A121, c122, I63, bl64, I61, bl62, I52, I45, bl46, I43, rfl, H, le115, le119, le123, HS⟩ )))
         · have HT_ := True.intro
           refine WDo.alloc (v := .agg #[sn, vi 0]) (cs := #[sn, vi 0]) 12 (w_none rfl) HS rfl (by kernel_rfl) rfl (fun b127 w128 hb127 HS => ?_)
           refine ⟨⟨HS.nowO, HS.nowN.2.2, ⟨(HS.mu 10 rfl), (HS.mu 11 rfl), (HS.mu 12 rfl), trivial⟩⟩, ?_⟩
           obtain ⟨A129, c130, rfl⟩ := row_slice (HS.mu 9 rfl)
           obtain ⟨A131, c132, rfl⟩ := row_slice (HS.mu 7 rfl)
           exact by (
           obtain ⟨A133, c134, rfl⟩ := row_slice (HS.mu 6 rfl)
           obtain ⟨A135, c136, rfl⟩ := row_slice (HS.mu 4 rfl)
           obtain ⟨A137, c138, rfl⟩ := row_slice (HS.mu 2 rfl)
           obtain ⟨t139, ha140, H⟩ := bind_some H
           refine dc_ 6 (w_none rfl) func46 (spec_AddCell.runs k t36 A129 c130 A131 c132 t47 A133 c134 t54 A135 c136 A137 c138 t139.1 t139.2.1 t139.2.2 _ (row_C rfl (HS.mu 9 rfl) (HS.getN 1 rfl)) (row_le (HS.mu 9 rfl)) (row_C rfl (HS.mu 7 rfl) (HS.elsK 8 rfl)) (row_le (HS.mu 7 rfl)) (row_C rfl (HS.mu 6 rfl) (HS.getN 0 rfl)) (row_le (HS.mu 6 rfl)) (row_C rfl (HS.mu 4 rfl) (HS.elsK 5 rfl)) (row_le (HS.mu 4 rfl)) (row_C rfl (HS.mu 2 rfl) (HS.elsK 3 rfl)) (row_le (HS.mu 2 rfl)) ha140) ?_
           clear ha140
           rintro _ w141 ⟨A142, c143, A146, c147, A150, c151, rfl, le144, hf145, le148, hf149, le152, hf153, hb⟩
           replace HS := HS.newNs hb (foot_cons hf145 (foot_cons hf149 (foot_cons hf153 foot_nil)))
           exact by (
           refine ⟨⟨HS.nowO, HS.nowN.2.2.2.2.2, ⟨(HS.mu 10 rfl), (HS.mu 11 rfl), (HS.mu 12 rfl), trivial⟩⟩, _, rfl, ?_⟩
           clear hb
           refine dm_ 7 ?_
           refine dp_ 8 (fun _ => Run.extract rfl rfl rfl) ?_
           refine dp_ 9 (fun _ => Run.extract rfl rfl rfl) ?_
           refine dp_ 10 (fun _ => Run.extract rfl rfl rfl) ?_
           exact useWD X35 ⟨b98, b127, A129, t36, c130, A131, c132, A133, t47, c134, A135, t54, c136, A137, c138, A142, t139, c143, A146, c147, A150, c151, I63, bl64, I61, bl62, I52, I45, bl46, I43, rfl, H, le144, le148, le152, HS⟩ ))
       · have HT_ := True.intro
         exact by (
         refine WDo.alloc (v := .agg #[sn, vi 0]) (cs := #[sn, vi 0]) 12 (w_none rfl) HS rfl (by kernel_rfl) rfl (fun b154 w155 hb154 HS => ?_)
         refine ⟨⟨HS.nowO, HS.nowN.2.2, ⟨(HS.mu 9 rfl), (HS.mu 10 rfl), (HS.mu 11 rfl), trivial⟩⟩, ?_⟩
         refine two__ 6 11 ?_ ?_
         · have HT_ := True.intro
           obtain ⟨A156, c157, rfl⟩ := row_slice (HS.mu 8 rfl)
           obtain ⟨A158, c159, rfl⟩ := row_slice (HS.mu 6 rfl)
           obtain ⟨A160, c161, rfl⟩ := row_slice (HS.mu 5 rfl)
           obtain ⟨A162, c163, rfl⟩ := row_slice (HS.mu 3 rfl)
           exact by (
           obtain ⟨A164, c165, rfl⟩ := row_slice (HS.mu 1 rfl)
           obtain ⟨t166, ha167, H⟩ := bind_some H
           refine dco_ 6 (w_none rfl) func46 (spec_AddCell.runs k t36 A156 c157 A158 c159 t47 A160 c161 t54 A162 c163 A164 c165 t166.1 t166.2.1 t166.2.2 _ (row_C rfl (HS.mu 8 rfl) (HS.getN 1 rfl)) (row_le (HS.mu 8 rfl)) (row_C rfl (HS.mu 6 rfl) (HS.elsK 7 rfl)) (row_le (HS.mu 6 rfl)) (row_C rfl (HS.mu 5 rfl) (HS.getN 0 rfl)) (row_le (HS.mu 5 rfl)) (row_C rfl (HS.mu 3 rfl) (HS.elsK 4 rfl)) (row_le (HS.mu 3 rfl)) (row_C rfl (HS.mu 1 rfl) (HS.elsK 2 rfl)) (row_le (HS.mu 1 rfl)) ha167) ?_
           clear ha167
           rintro _ w168 ⟨A169, c170, A173, c174, A177, c178, rfl, le171, hf172, le175, hf176, le179, hf180, hb⟩
           replace HS := HS.newNs hb (foot_cons hf172 (foot_cons hf176 (foot_cons hf180 foot_nil)))
           refine ⟨⟨HS.nowO, HS.nowN.2.2.2.2.2, ⟨(HS.mu 9 rfl), (HS.mu 10 rfl), (HS.mu 11 rfl), trivial⟩⟩, _, rfl, ?_⟩
           clear hb
           exact by (
           refine dm_ 7 ?_
           refine dp_ 8 (fun _ => Run.extract rfl rfl rfl) ?_
           refine dp_ 9 (fun _ => Run.extract rfl rfl rfl) ?_
           refine dp_ 10 (fun _ => Run.extract rfl rfl rfl) ?_
           refine WD.alloc (v := .agg #[sn, sn]) (cs := #[sn, sn]) 11 (w_none rfl) HS rfl (by kernel_rfl) rfl (fun b181 w182 hb181 HS => ?_)
           refine ⟨⟨HS.nowO, HS.nowN.2.2.2.2.2, ⟨(HS.mu 10 rfl), (HS.mu 11 rfl), (HS.mu 12 rfl), trivial⟩⟩, ?_⟩
           exact useWD X35 ⟨b181, b154, A156, t36, c157, A158, c159, A160, t47, c161, A162, t54, c163, A164, c165, A169, t166, c170, A173, c174, A177, c178, I63, bl64, I61, bl62, I52, I45, bl46, I43, rfl, H, le171, le175, le179, (St.sel HS [1, 0, 2, 3, 4, 5, 6, 7, 8, 9, 10, 11, 12])⟩ ))
         · have HT_ := True.intro
           exact by (
           refine WDo.alloc (v := .agg #[sn, sn]) (cs := #[sn, sn]) 11 (w_none rfl) HS rfl (by kernel_rfl) rfl (fun b183 w184 hb183 HS => ?_)
           refine ⟨⟨HS.nowO, HS.nowN.2.2, ⟨(HS.mu 10 rfl), (HS.mu 11 rfl), (HS.mu 12 rfl), trivial⟩⟩, ?_⟩
           obtain ⟨A185, c186, rfl⟩ := row_slice (HS.mu 9 rfl)
           obtain ⟨A187, c188, rfl⟩ := row_slice (HS.mu 7 rfl)
           obtain ⟨A189, c190, rfl⟩ := row_slice (HS.mu 6 rfl)
           obtain ⟨A191, c192, rfl⟩ := row_slice (HS.mu 4 rfl)
           obtain ⟨A193, c194, rfl⟩ := row_slice (HS.mu 2 rfl)
           obtain ⟨t195, ha196, H⟩ := bind_some H
           exact by (
           refine dc_ 6 (w_none rfl) func46 (spec_AddCell.runs k t36 A185 c186 A187 c188 t47 A189 c190 t54 A191 c192 A193 c194 t195.1 t195.2.1 t195.2.2 _ (row_C rfl (HS.mu 9 rfl) (HS.getN 1 rfl)) (row_le (HS.mu 9 rfl)) (row_C rfl (HS.mu 7 rfl) (HS.elsK 8 rfl)) (row_le (HS.mu 7 rfl)) (row_C rfl (HS.mu 6 rfl) (HS.getN 0 rfl)) (row_le (HS.mu 6 rfl)) (row_C rfl (HS.mu 4 rfl) (HS.elsK 5 rfl)) (row_le (HS.mu 4 rfl)) (row_C rfl (HS.mu 2 rfl) (HS.elsK 3 rfl)) (row_le (HS.mu 2 rfl)) ha196) ?_
           clear ha196
           rintro _ w197 ⟨A198, c199, A202, c203, A206, c207, rfl, le200, hf201, le204, hf205, le208, hf209, hb⟩
           replace HS := HS.newNs hb (foot_cons hf201 (foot_cons hf205 (foot_cons hf209 foot_nil)))
           refine ⟨⟨HS.nowO, HS.nowN.2.2.2.2.2, ⟨(HS.mu 10 rfl), (HS.mu 11 rfl), (HS.mu 12 rfl), trivial⟩⟩, _, rfl, ?_⟩
           clear hb
           refine dm_ 7 ?_
           refine dp_ 8 (fun _ => Run.extract rfl rfl rfl) ?_
           exact by (
           refine dp_ 9 (fun _ => Run.extract rfl rfl rfl) ?_
           refine dp_ 10 (fun _ => Run.extract rfl rfl rfl) ?_
           exact useWD X35 ⟨b183, b154, A185, t36, c186, A187, c188, A189, t47, c190, A191, t54, c192, A193, c194, A198, t195, c199, A202, c203, A206, c207, I63, bl64, I61, bl62, I52, I45, bl46, I43, rfl, H, le200, le204, le208, (St.sel HS [1, 0, 2, 3, 4, 5, 6, 7, 8, 9, 10, 11, 12])⟩ ))))))
     · have HT_ := True.intro
       refine WDo.alloc (v := .agg #[sn, sn]) (cs := #[sn, sn]) 11 (w_none rfl) HS rfl (by kernel_rfl) rfl (fun b210 w211 hb210 HS => ?_)
       refine ⟨⟨HS.nowO, HS.nowN.2.2, ⟨(HS.mu 5 rfl), (HS.mu 6 rfl), (HS.mu 7 rfl), trivial⟩⟩, ?_⟩
       refine two__ 5 12 ?_ ?_
       · have HT_ := True.intro
         exact by (
         obtain ⟨t212, ha213, H⟩ := bind_some H
         refine dco_ 5 (w_none rfl) func74 (laws_toCell.runs k (⟨x2.f0, x2.f1⟩ : S98) A2_0 c2_0 A2_1 c2_1 t212 _ (HS.getO 3 rfl) hc2_0 (HS.getO 4 rfl) hc2_1 ha213) ?_
         clear ha213
         rintro _ w214 ⟨v215, bl216, v217, bl218, rfl, hO_, hb⟩
         replace HS := HS.got hb hO_
         dsimp only [List.cons_append, List.nil_append] at HS
         clear hO_
         obtain ⟨I219, bl220, HS⟩ := HS.unseal (sz := 1) rfl
         exact by (
         replace HS := HS.front 2 rfl
         dsimp only [List.eraseIdx] at HS
         obtain ⟨I221, bl222, HS⟩ := HS.unseal (sz := 1) rfl
         refine ⟨⟨HS.nowO, HS.nowN.2.2, ⟨(HS.mu 9 rfl), (HS.mu 10 rfl), (HS.mu 11 rfl), trivial⟩⟩, _, rfl, ?_⟩
         clear hb
         refine two__ 6 12 ?_ ?_
         · have HT_ := True.intro
           obtain ⟨A223, c224, rfl⟩ := row_slice (HS.mu 8 rfl)
           exact by (
           obtain ⟨A225, c226, rfl⟩ := row_slice (HS.mu 6 rfl)
           obtain ⟨A227, c228, rfl⟩ := row_slice (HS.mu 5 rfl)
           obtain ⟨A229, c230, rfl⟩ := row_slice (HS.mu 2 rfl)
           obtain ⟨A231, c232, rfl⟩ := row_slice (HS.mu 0 rfl)
           obtain ⟨t233, ha234, H⟩ := bind_some H
           refine dco_ 6 (w_none rfl) func46 (spec_AddCell.runs k t36 A223 c224 A225 c226 t47 A227 c228 t212 A229 c230 A231 c232 t233.1 t233.2.1 t233.2.2 _ (row_C rfl (HS.mu 8 rfl) (HS.getN 1 rfl)) (row_le (HS.mu 8 rfl)) (row_C rfl (HS.mu 6 rfl) (HS.elsK 7 rfl)) (row_le (HS.mu 6 rfl)) (row_C rfl (HS.mu 5 rfl) (HS.getN 0 rfl)) (row_le (HS.mu 5 rfl)) (row_C rfl (HS.mu 2 rfl) (HS.elsK 3 rfl)) (row_le (HS.mu 2 rfl)) (row_C rfl (HS.mu 0 rfl) (HS.elsK 1 rfl)) (row_le (HS.mu 0 rfl)) ha234) ?_
           clear ha234
           rintro _ w235 ⟨A236, c237, A240, c241, A244, c245, rfl, le238, hf239, le242, hf243, le246, hf247, hb⟩
           exact by (
           replace HS := HS.newNs hb (foot_cons hf239 (foot_cons hf243 (foot_cons hf247 foot_nil)))
           refine ⟨⟨HS.nowO, HS.nowN.2.2.2.2.2, ⟨(HS.mu 9 rfl), (HS.mu 10 rfl), (HS.mu 11 rfl), trivial⟩⟩, _, rfl, ?_⟩
           clear hb
           refine dm_ 7 ?_
           refine dp_ 8 (fun _ => Run.extract rfl rfl rfl) ?_
           refine dp_ 9 (fun _ => Run.extract rfl rfl rfl) ?_
           refine dp_ 10 (fun _ => Run.extract rfl rfl rfl) ?_
           refine WD.alloc (v := .agg #[sn, vi 0]) (cs := #[sn, vi 0]) 12 (w_none rfl) HS rfl (by kernel_rfl) rfl (fun b248 w249 hb248 HS => ?_)
           exact by (
           refine ⟨⟨HS.nowO, HS.nowN.2.2.2.2.2, ⟨(HS.mu 10 rfl), (HS.mu 11 rfl), (HS.mu 12 rfl), trivial⟩⟩, ?_⟩
           exact useWD X35 ⟨b210, b248, A223, t36, c224, A225, c226, A227, t47, c228, A229, t212, c230, A231, c232, A236, t233, c237, A240, c241, A244, c245, I221, bl222, I219, bl220, I52, I45, bl46, I43, rfl, H, le238, le242, le246, (St.sel HS [0, 5, 1, 2, 3, 4, 6, 7, 8, 9, 10, 11, 12])⟩ )))
         · have HT_ := True.intro
           refine WDo.alloc (v := .agg #[sn, vi 0]) (cs := #[sn, vi 0]) 12 (w_none rfl) HS rfl (by kernel_rfl) rfl (fun b250 w251 hb250 HS => ?_)
           refine ⟨⟨HS.nowO, HS.nowN.2.2, ⟨(HS.mu 10 rfl), (HS.mu 11 rfl), (HS.mu 12 rfl), trivial⟩⟩, ?_⟩
           obtain ⟨A252, c253, rfl⟩ := row_slice (HS.mu 9 rfl)
           obtain ⟨A254, c255, rfl⟩ := row_slice (HS.mu 7 rfl)
           obtain ⟨A256, c257, rfl⟩ := row_slice (HS.mu 6 rfl)
           exact by (
           obtain ⟨A258, c259, rfl⟩ := row_slice (HS.mu 3 rfl)
           obtain ⟨A260, c261, rfl⟩ := row_slice (HS.mu 1 rfl)
           obtain ⟨t262, ha263, H⟩ := bind_some H
           refine dc_ 6 (w_none rfl) func46 (spec_AddCell.runs k t36 A252 c253 A254 c255 t47 A256 c257 t212 A258 c259 A260 c261 t262.1 t262.2.1 t262.2.2 _ (row_C rfl (HS.mu 9 rfl) (HS.getN 1 rfl)) (row_le (HS.mu 9 rfl)) (row_C rfl (HS.mu 7 rfl) (HS.elsK 8 rfl)) (row_le (HS.mu 7 rfl)) (row_C rfl (HS.mu 6 rfl) (HS.getN 0 rfl)) (row_le (HS.mu 6 rfl)) (row_C rfl (HS.mu 3 rfl) (HS.elsK 4 rfl)) (row_le (HS.mu 3 rfl)) (row_C rfl (HS.mu 1 rfl) (HS.elsK 2 rfl)) (row_le (HS.mu 1 rfl)) ha263) ?_
           clear ha263
           rintro _ w264 ⟨A265, c266, A269, c270, A273, c274, rfl, le267, hf268, le271, hf272, le275, hf276, hb⟩
           replace HS := HS.newNs hb (foot_cons hf268 (foot_cons hf272 (foot_cons hf276 foot_nil)))
           refine ⟨⟨HS.nowO, HS.nowN.2.2.2.2.2, ⟨(HS.mu 10 rfl), (HS.mu 11 rfl), (HS.mu 12 rfl), trivial⟩⟩, _, rfl, ?_⟩
           exact by (
           clear hb
           refine dm_ 7 ?_
           refine dp_ 8 (fun _ => Run.extract rfl rfl rfl) ?_
           refine dp_ 9 (fun _ => Run.extract rfl rfl rfl) ?_
           refine dp_ 10 (fun _ => Run.extract rfl rfl rfl) ?_
           exact useWD X35 ⟨b210, b250, A252, t36, c253, A254, c255, A256, t47, c257, A258, t212, c259, A260, c261, A265, t262, c266, A269, c270, A273, c274, I221, bl222, I219, bl220, I52, I45, bl46, I43, rfl, H, le267, le271, le275, (St.sel HS [0, 5, 1, 2, 3, 4, 6, 7, 8, 9, 10, 11, 12])⟩ ))))
       · have HT_ := True.intro
         refine WDo.alloc (v := .agg #[sn, vi 0]) (cs := #[sn, vi 0]) 12 (w_none rfl) HS rfl (by kernel_rfl) rfl (fun b277 w278 hb277 HS => ?_)
         exact by (
         refine ⟨⟨HS.nowO, HS.nowN.2.2, ⟨(HS.mu 6 rfl), (HS.mu 7 rfl), (HS.mu 8 rfl), trivial⟩⟩, ?_⟩
         obtain ⟨t279, ha280, H⟩ := bind_some H
         refine dc_ 5 (w_none rfl) func74 (laws_toCell.runs k (⟨x2.f0, x2.f1⟩ : S98) A2_0 c2_0 A2_1 c2_1 t279 _ (HS.getO 3 rfl) hc2_0 (HS.getO 4 rfl) hc2_1 ha280) ?_
         clear ha280
         rintro _ w281 ⟨v282, bl283, v284, bl285, rfl, hO_, hb⟩
         replace HS := HS.got hb hO_
         dsimp only [List.cons_append, List.nil_append] at HS
         clear hO_
         exact by (
         obtain ⟨I286, bl287, HS⟩ := HS.unseal (sz := 1) rfl
         replace HS := HS.front 2 rfl
         dsimp only [List.eraseIdx] at HS
         obtain ⟨I288, bl289, HS⟩ := HS.unseal (sz := 1) rfl
         refine ⟨⟨HS.nowO, HS.nowN.2.2, ⟨(HS.mu 10 rfl), (HS.mu 11 rfl), (HS.mu 12 rfl), trivial⟩⟩, _, rfl, ?_⟩
         clear hb
         obtain ⟨A290, c291, rfl⟩ := row_slice (HS.mu 9 rfl)
         obtain ⟨A292, c293, rfl⟩ := row_slice (HS.mu 7 rfl)
         exact by (
         obtain ⟨A294, c295, rfl⟩ := row_slice (HS.mu 6 rfl)
         obtain ⟨A296, c297, rfl⟩ := row_slice (HS.mu 2 rfl)
         obtain ⟨A298, c299, rfl⟩ := row_slice (HS.mu 0 rfl)
         obtain ⟨t300, ha301, H⟩ := bind_some H
         refine dc_ 6 (w_none rfl) func46 (spec_AddCell.runs k t36 A290 c291 A292 c293 t47 A294 c295 t279 A296 c297 A298 c299 t300.1 t300.2.1 t300.2.2 _ (row_C rfl (HS.mu 9 rfl) (HS.getN 1 rfl)) (row_le (HS.mu 9 rfl)) (row_C rfl (HS.mu 7 rfl) (HS.elsK 8 rfl)) (row_le (HS.mu 7 rfl)) (row_C rfl (HS.mu 6 rfl) (HS.getN 0 rfl)) (row_le (HS.mu 6 rfl)) (row_C rfl (HS.mu 2 rfl) (HS.elsK 3 rfl)) (row_le (HS.mu 2 rfl)) (row_C rfl (HS.mu 0 rfl) (HS.elsK 1 rfl)) (row_le (HS.mu 0 rfl)) ha301) ?_
         clear ha301
         rintro _ w302 ⟨A303, c304, A307, c308, A311, c312, rfl, le305, hf306, le309, hf310, le313, hf314, hb⟩
         replace HS := HS.newNs hb (foot_cons hf306 (foot_cons hf310 (foot_cons hf314 foot_nil)))
         exact by (
         refine ⟨⟨HS.nowO, HS.nowN.2.2.2.2.2, ⟨(HS.mu 10 rfl), (HS.mu 11 rfl), (HS.mu 12 rfl), trivial⟩⟩, _, rfl, ?_⟩
         clear hb
         refine dm_ 7 ?_
         refine dp_ 8 (fun _ => Run.extract rfl rfl rfl) ?_
         refine dp_ 9 (fun _ => Run.extract rfl rfl rfl) ?_
         refine dp_ 10 (fun _ => Run.extract rfl rfl rfl) ?_
         exact useWD X35 ⟨b210, b277, A290, t36, c291, A292, c293, A294, t47, c295, A296, t279, c297, A298, c299, A303, t300, c304, A307, c308, A311, c312, I288, bl289, I286, bl287, I52, I45, bl46, I43, rfl, H, le305, le309, le313, (St.sel HS [4, 5, 0, 1, 2, 3, 6, 7, 8, 9, 10, 11, 12])⟩ ))))
     · have HT_ := True.intro
       exact by (
       refine WDo.alloc (v := .agg #[sn, vi 0]) (cs := #[sn, vi 0]) 12 (w_none rfl) HS rfl (by kernel_rfl) rfl (fun b315 w316 hb315 HS => ?_)
       refine ⟨⟨HS.nowO, HS.nowN.2.2, ⟨(HS.mu 5 rfl), (HS.mu 6 rfl), (HS.mu 7 rfl), trivial⟩⟩, ?_⟩
       refine two__ 5 11 ?_ ?_
       · have HT_ := True.intro
         obtain ⟨t317, ha318, H⟩ := bind_some H
         refine dco_ 5 (w_none rfl) func74 (laws_toCell.runs k (⟨x2.f0, x2.f1⟩ : S98) A2_0 c2_0 A2_1 c2_1 t317 _ (HS.getO 3 rfl) hc2_0 (HS.getO 4 rfl) hc2_1 ha318) ?_
         clear ha318
         rintro _ w319 ⟨v320, bl321, v322, bl323, rfl, hO_, hb⟩
         exact by (
         replace HS := HS.got hb hO_
         dsimp only [List.cons_append, List.nil_append] at HS
         clear hO_
         obtain ⟨I324, bl325, HS⟩ := HS.unseal (sz := 1) rfl
         replace HS := HS.front 2 rfl
         dsimp only [List.eraseIdx] at HS
         obtain ⟨I326, bl327, HS⟩ := HS.unseal (sz := 1) rfl
         refine ⟨⟨HS.nowO, HS.nowN.2.2, ⟨(HS.mu 9 rfl), (HS.mu 10 rfl), (HS.mu 11 rfl), trivial⟩⟩, _, rfl, ?_⟩
         exact by (
         clear hb
         refine two__ 6 11 ?_ ?_
         · have HT_ := True.intro
           obtain ⟨A328, c329, rfl⟩ := row_slice (HS.mu 8 rfl)
           obtain ⟨A330, c331, rfl⟩ := row_slice (HS.mu 6 rfl)
           obtain ⟨A332, c333, rfl⟩ := row_slice (HS.mu 5 rfl)
           obtain ⟨A334, c335, rfl⟩ := row_slice (HS.mu 2 rfl)
           obtain ⟨A336, c337, rfl⟩ := row_slice (HS.mu 0 rfl)
           exact by (
           obtain ⟨t338, ha339, H⟩ := bind_some H
           refine dco_ 6 (w_none rfl) func46 (spec_AddCell.runs k t36 A328 c329 A330 c331 t47 A332 c333 t317 A334 c335 A336 c337 t338.1 t338.2.1 t338.2.2 _ (row_C rfl (HS.mu 8 rfl) (HS.getN 1 rfl)) (row_le (HS.mu 8 rfl)) (row_C rfl (HS.mu 6 rfl) (HS.elsK 7 rfl)) (row_le (HS.mu 6 rfl)) (row_C rfl (HS.mu 5 rfl) (HS.getN 0 rfl)) (row_le (HS.mu 5 rfl)) (row_C rfl (HS.mu 2 rfl) (HS.elsK 3 rfl)) (row_le (HS.mu 2 rfl)) (row_C rfl (HS.mu 0 rfl) (HS.elsK 1 rfl)) (row_le (HS.mu 0 rfl)) ha339) ?_
           clear ha339
           rintro _ w340 ⟨A341, c342, A345, c346, A349, c350, rfl, le343, hf344, le347, hf348, le351, hf352, hb⟩
           replace HS := HS.newNs hb (foot_cons hf344 (foot_cons hf348 (foot_cons hf352 foot_nil)))
           refine ⟨⟨HS.nowO, HS.nowN.2.2.2.2.2, ⟨(HS.mu 9 rfl), (HS.mu 10 rfl), (HS.mu 11 rfl), trivial⟩⟩, _, rfl, ?_⟩
           clear hb
           refine dm_ 7 ?_
           exact by (
           refine dp_ 8 (fun _ => Run.extract rfl rfl rfl) ?_
           refine dp_ 9 (fun _ => Run.extract rfl rfl rfl) ?_
           refine dp_ 10 (fun _ => Run.extract rfl rfl rfl) ?_
           refine WD.alloc (v := .agg #[sn, sn]) (cs := #[sn, sn]) 11 (w_none rfl) HS rfl (by kernel_rfl) rfl (fun b353 w354 hb353 HS => ?_)
           refine ⟨⟨HS.nowO, HS.nowN.2.2.2.2.2, ⟨(HS.mu 10 rfl), (HS.mu 11 rfl), (HS.mu 12 rfl), trivial⟩⟩, ?_⟩
           exact useWD X35 ⟨b353, b315, A328, t36, c329, A330, c331, A332, t47, c333, A334, t317, c335, A336, c337, A341, t338, c342, A345, c346, A349, c350, I326, bl327, I324, bl325, I52, I45, bl46, I43, rfl, H, le343, le347, le351, (St.sel HS [5, 0, 1, 2, 3, 4, 6, 7, 8, 9, 10, 11, 12])⟩ ))
         · have HT_ := True.intro
           refine WDo.alloc (v := .agg #[sn, sn]) (cs := #[sn, sn]) 11 (w_none rfl) HS rfl (by kernel_rfl) rfl (fun b355 w356 hb355 HS => ?_)
           exact by (
           refine ⟨⟨HS.nowO, HS.nowN.2.2, ⟨(HS.mu 10 rfl), (HS.mu 11 rfl), (HS.mu 12 rfl), trivial⟩⟩, ?_⟩
           obtain ⟨A357, c358, rfl⟩ := row_slice (HS.mu 9 rfl)
           obtain ⟨A359, c360, rfl⟩ := row_slice (HS.mu 7 rfl)
           obtain ⟨A361, c362, rfl⟩ := row_slice (HS.mu 6 rfl)
           obtain ⟨A363, c364, rfl⟩ := row_slice (HS.mu 3 rfl)
           obtain ⟨A365, c366, rfl⟩ := row_slice (HS.mu 1 rfl)
           obtain ⟨t367, ha368, H⟩ := bind_some H
           refine dc_ 6 (w_none rfl) func46 (spec_AddCell.runs k t36 A357 c358 A359 c360 t47 A361 c362 t317 A363 c364 A365 c366 t367.1 t367.2.1 t367.2.2 _ (row_C rfl (HS.mu 9 rfl) (HS.getN 1 rfl)) (row_le (HS.mu 9 rfl)) (row_C rfl (HS.mu 7 rfl) (HS.elsK 8 rfl)) (row_le (HS.mu 7 rfl)) (row_C rfl (HS.mu 6 rfl) (HS.getN 0 rfl)) (row_le (HS.mu 6 rfl)) (row_C rfl (HS.mu 3 rfl) (HS.elsK 4 rfl)) (row_le (HS.mu 3 rfl)) (row_C rfl (HS.mu 1 rfl) (HS.elsK 2 rfl)) (row_le (HS.mu 1 rfl)) ha368) ?_
           exact by (
           clear ha368
           rintro _ w369 ⟨A370, c371, A374, c375, A378, c379, rfl, le372, hf373, le376, hf377, le380, hf381, hb⟩
           replace HS := HS.newNs hb (foot_cons hf373 (foot_cons hf377 (foot_cons hf381 foot_nil)))
           refine ⟨⟨HS.nowO, HS.nowN.2.2.2.2.2, ⟨(HS.mu 10 rfl), (HS.mu 11 rfl), (HS.mu 12 rfl), trivial⟩⟩, _, rfl, ?_⟩
           clear hb
           refine dm_ 7 ?_
           refine dp_ 8 (fun _ => Run.extract rfl rfl rfl) ?_
           refine dp_ 9 (fun _ => Run.extract rfl rfl rfl) ?_
           exact by (
           refine dp_ 10 (fun _ => Run.extract rfl rfl rfl) ?_
           exact useWD X35 ⟨b355, b315, A357, t36, c358, A359, c360, A361, t47, c362, A363, t317, c364, A365, c366, A370, t367, c371, A374, c375, A378, c379, I326, bl327, I324, bl325, I52, I45, bl46, I43, rfl, H, le372, le376, le380, (St.sel HS [5, 0, 1, 2, 3, 4, 6, 7, 8, 9, 10, 11, 12])⟩ )))))
       · have HT_ := True.intro
         refine WDo.alloc (v := .agg #[sn, sn]) (cs := #[sn, sn]) 11 (w_none rfl) HS rfl (by kernel_rfl) rfl (fun b382 w383 hb382 HS => ?_)
         refine ⟨⟨HS.nowO, HS.nowN.2.2, ⟨(HS.mu 6 rfl), (HS.mu 7 rfl), (HS.mu 8 rfl), trivial⟩⟩, ?_⟩
         obtain ⟨t384, ha385, H⟩ := bind_some H
         refine dc_ 5 (w_none rfl) func74 (laws_toCell.runs k (⟨x2.f0, x2.f1⟩ : S98) A2_0 c2_0 A2_1 c2_1 t384 _ (HS.getO 3 rfl) hc2_0 (HS.getO 4 rfl) hc2_1 ha385) ?_
         clear ha385
         exact by (
         rintro _ w386 ⟨v387, bl388, v389, bl390, rfl, hO_, hb⟩
         replace HS := HS.got hb hO_
         dsimp only [List.cons_append, List.nil_append] at HS
         clear hO_
         obtain ⟨I391, bl392, HS⟩ := HS.unseal (sz := 1) rfl
         replace HS := HS.front 2 rfl
         dsimp only [List.eraseIdx] at HS
         obtain ⟨I393, bl394, HS⟩ := HS.unseal (sz := 1) rfl
         exact by (
         refine ⟨⟨HS.nowO, HS.nowN.2.2, ⟨(HS.mu 10 rfl), (HS.mu 11 rfl), (HS.mu 12 rfl), trivial⟩⟩, _, rfl, ?_⟩
         clear hb
         obtain ⟨A395, c396, rfl⟩ := row_slice (HS.mu 9 rfl)
         obtain ⟨A397, c398, rfl⟩ := row_slice (HS.mu 7 rfl)
         obtain ⟨A399, c400, rfl⟩ := row_slice (HS.mu 6 rfl)
         obtain ⟨A401, c402, rfl⟩ := row_slice (HS.mu 2 rfl)
         obtain ⟨A403, c404, rfl⟩ := row_slice (HS.mu 0 rfl)
         obtain ⟨t405, ha406, H⟩ := bind_some H
         exact by (
         refine dc_ 6 (w_none rfl) func46 (spec_AddCell.runs k t36 A395 c396 A397 c398 t47 A399 c400 t384 A401 c402 A403 c404 t405.1 t405.2.1 t405.2.2 _ (row_C rfl (HS.mu 9 rfl) (HS.getN 1 rfl)) (row_le (HS.mu 9 rfl)) (row_C rfl (HS.mu 7 rfl) (HS.elsK 8 rfl)) (row_le (HS.mu 7 rfl)) (row_C rfl (HS.mu 6 rfl) (HS.getN 0 rfl)) (row_le (HS.mu 6 rfl)) (row_C rfl (HS.mu 2 rfl) (HS.elsK 3 rfl)) (row_le (HS.mu 2 rfl)) (row_C rfl (HS.mu 0 rfl) (HS.elsK 1 rfl)) (row_le (HS.mu 0 rfl)) ha406) ?_
         clear ha406
         rintro _ w407 ⟨A408, c409, A412, c413, A416, c417, rfl, le410, hf411, le414, hf415, le418, hf419, hb⟩
         replace HS := HS.newNs hb (foot_cons hf411 (foot_cons hf415 (foot_cons hf419 foot_nil)))
         refine ⟨⟨HS.nowO, HS.nowN.2.2.2.2.2, ⟨(HS.mu 10 rfl), (HS.mu 11 rfl), (HS.mu 12 rfl), trivial⟩⟩, _, rfl, ?_⟩
         clear hb
         refine dm_ 7 ?_
         refine dp_ 8 (fun _ => Run.extract rfl rfl rfl) ?_
         exact by (
         refine dp_ 9 (fun _ => Run.extract rfl rfl rfl) ?_
         refine dp_ 10 (fun _ => Run.extract rfl rfl rfl) ?_
         exact useWD X35 ⟨b382, b315, A395, t36, c396, A397, c398, A399, t47, c400, A401, t384, c402, A403, c404, A408, t405, c409, A412, c413, A416, c417, I393, bl394, I391, bl392, I52, I45, bl46, I43, rfl, H, le410, le414, le418, (St.sel HS [5, 4, 0, 1, 2, 3, 6, 7, 8, 9, 10, 11, 12])⟩ ))))))
   · have HT_ := True.intro
     refine WDo.alloc (v := .agg #[sn, sn]) (cs := #[sn, sn]) 11 (w_none rfl) HS rfl (by kernel_rfl) rfl (fun b420 w421 hb420 HS => ?_)
     refine ⟨⟨HS.nowO, HS.nowN.2, ⟨(HS.mu 4 rfl), (HS.mu 5 rfl), (HS.mu 6 rfl), trivial⟩⟩, ?_⟩
     refine two__ 3 12 ?_ ?_
     · have HT_ := True.intro
       exact by (
       obtain ⟨t422, ha423, H⟩ := bind_some H
       refine dco_ 3 (w_none rfl) func61 (laws_toTable.runs k (⟨x1.f0, x1.f1⟩ : S85) A1_0 c1_0 t422 _ (HS.getO 2 rfl) hc1_0 ha423) ?_
       clear ha423
       rintro _ w424 ⟨v425, bl426, rfl, hO_, hb⟩
       replace HS := HS.got hb hO_
       dsimp only [List.cons_append, List.nil_append] at HS
       clear hO_
       obtain ⟨I427, bl428, HS⟩ := HS.unseal (sz := 1) rfl
       exact by (
       replace HS := HS.freezeN 1 (p := (rF kI t422.f0 I427)) rfl (fun _ hP_ _ => RepsB.reps hP_)
       dsimp only [List.eraseIdx] at HS
       refine ⟨⟨HS.nowO, HS.nowN.2.2, ⟨(HS.mu 5 rfl), (HS.mu 6 rfl), (HS.mu 7 rfl), trivial⟩⟩, _, rfl, ?_⟩
       clear hb
       refine two__ 5 12 ?_ ?_
       · have HT_ := True.intro
         obtain ⟨t429, ha430, H⟩ := bind_some H
         refine dco_ 5 (w_none rfl) func74 (laws_toCell.runs k (⟨x2.f0, x2.f1⟩ : S98) A2_0 c2_0 A2_1 c2_1 t429 _ (HS.getO 3 rfl) hc2_0 (HS.getO 4 rfl) hc2_1 ha430) ?_
         exact by (
         clear ha430
         rintro _ w431 ⟨v432, bl433, v434, bl435, rfl, hO_, hb⟩
         replace HS := HS.got hb hO_
         dsimp only [List.cons_append, List.nil_append] at HS
         clear hO_
         obtain ⟨I436, bl437, HS⟩ := HS.unseal (sz := 1) rfl
         replace HS := HS.front 2 rfl
         dsimp only [List.eraseIdx] at HS
         exact by (
         obtain ⟨I438, bl439, HS⟩ := HS.unseal (sz := 1) rfl
         refine ⟨⟨HS.nowO, HS.nowN.2.2, ⟨(HS.mu 9 rfl), (HS.mu 10 rfl), (HS.mu 11 rfl), trivial⟩⟩, _, rfl, ?_⟩
         clear hb
         refine two__ 6 12 ?_ ?_
         · have HT_ := True.intro
           obtain ⟨A440, c441, rfl⟩ := row_slice (HS.mu 8 rfl)
           obtain ⟨A442, c443, rfl⟩ := row_slice (HS.mu 6 rfl)
           obtain ⟨A444, c445, rfl⟩ := row_slice (HS.mu 4 rfl)
           exact by (
           obtain ⟨A446, c447, rfl⟩ := row_slice (HS.mu 2 rfl)
           obtain ⟨A448, c449, rfl⟩ := row_slice (HS.mu 0 rfl)
           obtain ⟨t450, ha451, H⟩ := bind_some H
           refine dco_ 6 (w_none rfl) func46 (spec_AddCell.runs k t36 A440 c441 A442 c443 t422 A444 c445 t429 A446 c447 A448 c449 t450.1 t450.2.1 t450.2.2 _ (row_C rfl (HS.mu 8 rfl) (HS.getN 1 rfl)) (row_le (HS.mu 8 rfl)) (row_C rfl (HS.mu 6 rfl) (HS.elsK 7 rfl)) (row_le (HS.mu 6 rfl)) (row_C rfl (HS.mu 4 rfl) (HS.getN 0 rfl)) (row_le (HS.mu 4 rfl)) (row_C rfl (HS.mu 2 rfl) (HS.elsK 3 rfl)) (row_le (HS.mu 2 rfl)) (row_C rfl (HS.mu 0 rfl) (HS.elsK 1 rfl)) (row_le (HS.mu 0 rfl)) ha451) ?_
           clear ha451
           rintro _ w452 ⟨A453, c454, A457, c458, A461, c462, rfl, le455, hf456, le459, hf460, le463, hf464, hb⟩
           replace HS := HS.newNs hb (foot_cons hf456 (foot_cons hf460 (foot_cons hf464 foot_nil)))
           refine ⟨⟨HS.nowO, HS.nowN.2.2.2.2.2, ⟨(HS.mu 9 rfl), (HS.mu 10 rfl), (HS.mu 11 rfl), trivial⟩⟩, _, rfl, ?_⟩
           exact by (
           clear hb
           refine dm_ 7 ?_
           refine dp_ 8 (fun _ => Run.extract rfl rfl rfl) ?_
           refine dp_ 9 (fun _ => Run.extract rfl rfl rfl) ?_
           refine dp_ 10 (fun _ => Run.extract rfl rfl rfl) ?_
           refine WD.alloc (v := .agg #[sn, vi 0]) (cs := #[sn, vi 0]) 12 (w_none rfl) HS rfl (by kernel_rfl) rfl (fun b465 w466 hb465 HS => ?_)
           refine ⟨⟨HS.nowO, HS.nowN.2.2.2.2.2, ⟨(HS.mu 10 rfl), (HS.mu 11 rfl), (HS.mu 12 rfl), trivial⟩⟩, ?_⟩
           exact useWD X35 ⟨b420, b465, A440, t36, c441, A442, c443, A444, t422, c445, A446, t429, c447, A448, c449, A453, t450, c454, A457, c458, A461, c462, I438, bl439, I436, bl437, I427, I45, bl46, I43, rfl, H, le455, le459, le463, (St.sel HS [0, 6, 1, 2, 3, 4, 5, 7, 8, 9, 10, 11, 12])⟩ ))
         · have HT_ := True.intro
           exact by (
           refine WDo.alloc (v := .agg #[sn, vi 0]) (cs := #[sn, vi 0]) 12 (w_none rfl) HS rfl (by kernel_rfl) rfl (fun b467 w468 hb467 HS => ?_)
           refine ⟨⟨HS.nowO, HS.nowN.2.2, ⟨(HS.mu 10 rfl), (HS.mu 11 rfl), (HS.mu 12 rfl), trivial⟩⟩, ?_⟩
           obtain ⟨A469, c470, rfl⟩ := row_slice (HS.mu 9 rfl)
           obtain ⟨A471, c472, rfl⟩ := row_slice (HS.mu 7 rfl)
           obtain ⟨A473, c474, rfl⟩ := row_slice (HS.mu 5 rfl)
           obtain ⟨A475, c476, rfl⟩ := row_slice (HS.mu 3 rfl)
           obtain ⟨A477, c478, rfl⟩ := row_slice (HS.mu 1 rfl)
           obtain ⟨t479, ha480, H⟩ := bind_some H
           exact by (
           refine dc_ 6 (w_none rfl) func46 (spec_AddCell.runs k t36 A469 c470 A471 c472 t422 A473 c474 t429 A475 c476 A477 c478 t479.1 t479.2.1 t479.2.2 _ (row_C rfl (HS.mu 9 rfl) (HS.getN 1 rfl)) (row_le (HS.mu 9 rfl)) (row_C rfl (HS.mu 7 rfl) (HS.elsK 8 rfl)) (row_le (HS.mu 7 rfl)) (row_C rfl (HS.mu 5 rfl) (HS.getN 0 rfl)) (row_le (HS.mu 5 rfl)) (row_C rfl (HS.mu 3 rfl) (HS.elsK 4 rfl)) (row_le (HS.mu 3 rfl)) (row_C rfl (HS.mu 1 rfl) (HS.elsK 2 rfl)) (row_le (HS.mu 1 rfl)) ha480) ?_
           clear ha480
           rintro _ w481 ⟨A482, c483, A486, c487, A490, c491, rfl, le484, hf485, le488, hf489, le492, hf493, hb⟩
           replace HS := HS.newNs hb (foot_cons hf485 (foot_cons hf489 (foot_cons hf493 foot_nil)))
           refine ⟨⟨HS.nowO, HS.nowN.2.2.2.2.2, ⟨(HS.mu 10 rfl), (HS.mu 11 rfl), (HS.mu 12 rfl), trivial⟩⟩, _, rfl, ?_⟩
           clear hb
           refine dm_ 7 ?_
           refine dp_ 8 (fun _ => Run.extract rfl rfl rfl) ?_
           exact by (
           refine dp_ 9 (fun _ => Run.extract rfl rfl rfl) ?_
           refine dp_ 10 (fun _ => Run.extract rfl rfl rfl) ?_
           exact useWD X35 ⟨b420, b467, A469, t36, c470, A471, c472, A473, t422, c474, A475, t429, c476, A477, c478, A482, t479, c483, A486, c487, A490, c491, I438, bl439, I436, bl437, I427, I45, bl46, I43, rfl, H, le484, le488, le492, (St.sel HS [0, 6, 1, 2, 3, 4, 5, 7, 8, 9, 10, 11, 12])⟩ )))))
       · have HT_ := True.intro
         refine WDo.alloc (v := .agg #[sn, vi 0]) (cs := #[sn, vi 0]) 12 (w_none rfl) HS rfl (by kernel_rfl) rfl (fun b494 w495 hb494 HS => ?_)
         refine ⟨⟨HS.nowO, HS.nowN.2.2, ⟨(HS.mu 6 rfl), (HS.mu 7 rfl), (HS.mu 8 rfl), trivial⟩⟩, ?_⟩
         obtain ⟨t496, ha497, H⟩ := bind_some H
         refine dc_ 5 (w_none rfl) func74 (laws_toCell.runs k (⟨x2.f0, x2.f1⟩ : S98) A2_0 c2_0 A2_1 c2_1 t496 _ (HS.getO 3 rfl) hc2_0 (HS.getO 4 rfl) hc2_1 ha497) ?_
         exact by (
         clear ha497
         rintro _ w498 ⟨v499, bl500, v501, bl502, rfl, hO_, hb⟩
         replace HS := HS.got hb hO_
         dsimp only [List.cons_append, List.nil_append] at HS
         clear hO_
         obtain ⟨I503, bl504, HS⟩ := HS.unseal (sz := 1) rfl
         replace HS := HS.front 2 rfl
         dsimp only [List.eraseIdx] at HS
         exact by (
         obtain ⟨I505, bl506, HS⟩ := HS.unseal (sz := 1) rfl
         refine ⟨⟨HS.nowO, HS.nowN.2.2, ⟨(HS.mu 10 rfl), (HS.mu 11 rfl), (HS.mu 12 rfl), trivial⟩⟩, _, rfl, ?_⟩
         clear hb
         obtain ⟨A507, c508, rfl⟩ := row_slice (HS.mu 9 rfl)
         obtain ⟨A509, c510, rfl⟩ := row_slice (HS.mu 7 rfl)
         obtain ⟨A511, c512, rfl⟩ := row_slice (HS.mu 5 rfl)
         obtain ⟨A513, c514, rfl⟩ := row_slice (HS.mu 2 rfl)
         obtain ⟨A515, c516, rfl⟩ := row_slice (HS.mu 0 rfl)
         exact by (
         obtain ⟨t517, ha518, H⟩ := bind_some H
         refine dc_ 6 (w_none rfl) func46 (spec_AddCell.runs k t36 A507 c508 A509 c510 t422 A511 c512 t496 A513 c514 A515 c516 t517.1 t517.2.1 t517.2.2 _ (row_C rfl (HS.mu 9 rfl) (HS.getN 1 rfl)) (row_le (HS.mu 9 rfl)) (row_C rfl (HS.mu 7 rfl) (HS.elsK 8 rfl)) (row_le (HS.mu 7 rfl)) (row_C rfl (HS.mu 5 rfl) (HS.getN 0 rfl)) (row_le (HS.mu 5 rfl)) (row_C rfl (HS.mu 2 rfl) (HS.elsK 3 rfl)) (row_le (HS.mu 2 rfl)) (row_C rfl (HS.mu 0 rfl) (HS.elsK 1 rfl)) (row_le (HS.mu 0 rfl)) ha518) ?_
         clear ha518
         rintro _ w519 ⟨A520, c521, A524, c525, A528, c529, rfl, le522, hf523, le526, hf527, le530, hf531, hb⟩
         replace HS := HS.newNs hb (foot_cons hf523 (foot_cons hf527 (foot_cons hf531 foot_nil)))
         refine ⟨⟨HS.nowO, HS.nowN.2.2.2.2.2, ⟨(HS.mu 10 rfl), (HS.mu 11 rfl), (HS.mu 12 rfl), trivial⟩⟩, _, rfl, ?_⟩
         clear hb
         refine dm_ 7 ?_
         exact by (
         refine dp_ 8 (fun _ => Run.extract rfl rfl rfl) ?_
         refine dp_ 9 (fun _ => Run.extract rfl rfl rfl) ?_
         refine dp_ 10 (fun _ => Run.extract rfl rfl rfl) ?_
         exact useWD X35 ⟨b420, b494, A507, t36, c508, A509, c510, A511, t422, c512, A513, t496, c514, A515, c516, A520, t517, c521, A524, c525, A528, c529, I505, bl506, I503, bl504, I427, I45, bl46, I43, rfl, H, le522, le526, le530, (St.sel HS [4, 6, 0, 1, 2, 3, 5, 7, 8, 9, 10, 11, 12])⟩ ))))))
     · have HT_ := True.intro
       refine WDo.alloc (v := .agg #[sn, vi 0]) (cs := #[sn, vi 0]) 12 (w_none rfl) HS rfl (by kernel_rfl) rfl (fun b532 w533 hb532 HS => ?_)
       refine ⟨⟨HS.nowO, HS.nowN.2, ⟨(HS.mu 5 rfl), (HS.mu 6 rfl), (HS.mu 7 rfl), trivial⟩⟩, ?_⟩
       obtain ⟨t534, ha535, H⟩ := bind_some H
       exact by (
       refine dc_ 3 (w_none rfl) func61 (laws_toTable.runs k (⟨x1.f0, x1.f1⟩ : S85) A1_0 c1_0 t534 _ (HS.getO 2 rfl) hc1_0 ha535) ?_
       clear ha535
       rintro _ w536 ⟨v537, bl538, rfl, hO_, hb⟩
       replace HS := HS.got hb hO_
       dsimp only [List.cons_append, List.nil_append] at HS
       clear hO_
       obtain ⟨I539, bl540, HS⟩ := HS.unseal (sz := 1) rfl
       replace HS := HS.freezeN 1 (p := (rF kI t534.f0 I539)) rfl (fun _ hP_ _ => RepsB.reps hP_)
       exact by (
       dsimp only [List.eraseIdx] at HS
       refine ⟨⟨HS.nowO, HS.nowN.2.2, ⟨(HS.mu 6 rfl), (HS.mu 7 rfl), (HS.mu 8 rfl), trivial⟩⟩, _, rfl, ?_⟩
       clear hb
       obtain ⟨t541, ha542, H⟩ := bind_some H
       refine dc_ 5 (w_none rfl) func74 (laws_toCell.runs k (⟨x2.f0, x2.f1⟩ : S98) A2_0 c2_0 A2_1 c2_1 t541 _ (HS.getO 3 rfl) hc2_0 (HS.getO 4 rfl) hc2_1 ha542) ?_
       clear ha542
       rintro _ w543 ⟨v544, bl545, v546, bl547, rfl, hO_, hb⟩
       replace HS := HS.got hb hO_
       exact by (
       dsimp only [List.cons_append, List.nil_append] at HS
       clear hO_
       obtain ⟨I548, bl549, HS⟩ := HS.unseal (sz := 1) rfl
       replace HS := HS.front 2 rfl
       dsimp only [List.eraseIdx] at HS
       obtain ⟨I550, bl551, HS⟩ := HS.unseal (sz := 1) rfl
       refine ⟨⟨HS.nowO, HS.nowN.2.2, ⟨(HS.mu 10 rfl), (HS.mu 11 rfl), (HS.mu 12 rfl), trivial⟩⟩, _, rfl, ?_⟩
       clear hb
       exact by (
       obtain ⟨A552, c553, rfl⟩ := row_slice (HS.mu 9 rfl)
       obtain ⟨A554, c555, rfl⟩ := row_slice (HS.mu 7 rfl)
       obtain ⟨A556, c557, rfl⟩ := row_slice (HS.mu 4 rfl)
       obtain ⟨A558, c559, rfl⟩ := row_slice (HS.mu 2 rfl)
       obtain ⟨A560, c561, rfl⟩ := row_slice (HS.mu 0 rfl)
       obtain ⟨t562, ha563, H⟩ := bind_some H
       refine dc_ 6 (w_none rfl) func46 (spec_AddCell.runs k t36 A552 c553 A554 c555 t534 A556 c557 t541 A558 c559 A560 c561 t562.1 t562.2.1 t562.2.2 _ (row_C rfl (HS.mu 9 rfl) (HS.getN 1 rfl)) (row_le (HS.mu 9 rfl)) (row_C rfl (HS.mu 7 rfl) (HS.elsK 8 rfl)) (row_le (HS.mu 7 rfl)) (row_C rfl (HS.mu 4 rfl) (HS.getN 0 rfl)) (row_le (HS.mu 4 rfl)) (row_C rfl (HS.mu 2 rfl) (HS.elsK 3 rfl)) (row_le (HS.mu 2 rfl)) (row_C rfl (HS.mu 0 rfl) (HS.elsK 1 rfl)) (row_le (HS.mu 0 rfl)) ha563) ?_
       clear ha563
       exact by (
       rintro _ w564 ⟨A565, c566, A569, c570, A573, c574, rfl, le567, hf568, le571, hf572, le575, hf576, hb⟩
       replace HS := HS.newNs hb (foot_cons hf568 (foot_cons hf572 (foot_cons hf576 foot_nil)))
       refine ⟨⟨HS.nowO, HS.nowN.2.2.2.2.2, ⟨(HS.mu 10 rfl), (HS.mu 11 rfl), (HS.mu 12 rfl), trivial⟩⟩, _, rfl, ?_⟩
       clear hb
       refine dm_ 7 ?_
       refine dp_ 8 (fun _ => Run.extract rfl rfl rfl) ?_
       refine dp_ 9 (fun _ => Run.extract rfl rfl rfl) ?_
       refine dp_ 10 (fun _ => Run.extract rfl rfl rfl) ?_
       exact useWD X35 ⟨b420, b532, A552, t36, c553, A554, c555, A556, t534, c557, A558, t541, c559, A560, c561, A565, t562, c566, A569, c570, A573, c574, I550, bl551, I548, bl549, I539, I45, bl46, I43, rfl, H, le567, le571, le575, (St.sel HS [5, 6, 0, 1, 2, 3, 4, 7, 8, 9, 10, 11, 12])⟩ )))))
   · have HT_ := True.intro
     exact by (
     refine WDo.alloc (v := .agg #[sn, vi 0]) (cs := #[sn, vi 0]) 12 (w_none rfl) HS rfl (by kernel_rfl) rfl (fun b577 w578 hb577 HS => ?_)
     refine ⟨⟨HS.nowO, HS.nowN.2, ⟨(HS.mu 4 rfl), (HS.mu 5 rfl), (HS.mu 6 rfl), trivial⟩⟩, ?_⟩
     refine two__ 3 11 ?_ ?_
     · have HT_ := True.intro
       obtain ⟨t579, ha580, H⟩ := bind_some H
       refine dco_ 3 (w_none rfl) func61 (laws_toTable.runs k (⟨x1.f0, x1.f1⟩ : S85) A1_0 c1_0 t579 _ (HS.getO 2 rfl) hc1_0 ha580) ?_
       clear ha580
       rintro _ w581 ⟨v582, bl583, rfl, hO_, hb⟩
       exact by (
       replace HS := HS.got hb hO_
       dsimp only [List.cons_append, List.nil_append] at HS
       clear hO_
       obtain ⟨I584, bl585, HS⟩ := HS.unseal (sz := 1) rfl
       replace HS := HS.freezeN 1 (p := (rF kI t579.f0 I584)) rfl (fun _ hP_ _ => RepsB.reps hP_)
       dsimp only [List.eraseIdx] at HS
       refine ⟨⟨HS.nowO, HS.nowN.2.2, ⟨(HS.mu 5 rfl), (HS.mu 6 rfl), (HS.mu 7 rfl), trivial⟩⟩, _, rfl, ?_⟩
       clear hb
       exact by (
       refine two__ 5 11 ?_ ?_
       · have HT_ := True.intro
         obtain ⟨t586, ha587, H⟩ := bind_some H
         refine dco_ 5 (w_none rfl) func74 (laws_toCell.runs k (⟨x2.f0, x2.f1⟩ : S98) A2_0 c2_0 A2_1 c2_1 t586 _ (HS.getO 3 rfl) hc2_0 (HS.getO 4 rfl) hc2_1 ha587) ?_
         clear ha587
         rintro _ w588 ⟨v589, bl590, v591, bl592, rfl, hO_, hb⟩
         replace HS := HS.got hb hO_
         dsimp only [List.cons_append, List.nil_append] at HS
         exact by (
         clear hO_
         obtain ⟨I593, bl594, HS⟩ := HS.unseal (sz := 1) rfl
         replace HS := HS.front 2 rfl
         dsimp only [List.eraseIdx] at HS
         obtain ⟨I595, bl596, HS⟩ := HS.unseal (sz := 1) rfl
         refine ⟨⟨HS.nowO, HS.nowN.2.2, ⟨(HS.mu 9 rfl), (HS.mu 10 rfl), (HS.mu 11 rfl), trivial⟩⟩, _, rfl, ?_⟩
         clear hb
         refine two__ 6 11 ?_ ?_
         · have HT_ := True.intro
           exact by (
           obtain ⟨A597, c598, rfl⟩ := row_slice (HS.mu 8 rfl)
           obtain ⟨A599, c600, rfl⟩ := row_slice (HS.mu 6 rfl)
           obtain ⟨A601, c602, rfl⟩ := row_slice (HS.mu 4 rfl)
           obtain ⟨A603, c604, rfl⟩ := row_slice (HS.mu 2 rfl)
           obtain ⟨A605, c606, rfl⟩ := row_slice (HS.mu 0 rfl)
           obtain ⟨t607, ha608, H⟩ := bind_some H
           refine dco_ 6 (w_none rfl) func46 (spec_AddCell.runs k t36 A597 c598 A599 c600 t579 A601 c602 t586 A603 c604 A605 c606 t607.1 t607.2.1 t607.2.2 _ (row_C rfl (HS.mu 8 rfl) (HS.getN 1 rfl)) (row_le (HS.mu 8 rfl)) (row_C rfl (HS.mu 6 rfl) (HS.elsK 7 rfl)) (row_le (HS.mu 6 rfl)) (row_C rfl (HS.mu 4 rfl) (HS.getN 0 rfl)) (row_le (HS.mu 4 rfl)) (row_C rfl (HS.mu 2 rfl) (HS.elsK 3 rfl)) (row_le (HS.mu 2 rfl)) (row_C rfl (HS.mu 0 rfl) (HS.elsK 1 rfl)) (row_le (HS.mu 0 rfl)) ha608) ?_
           clear ha608
           exact by (
           rintro _ w609 ⟨A610, c611, A614, c615, A618, c619, rfl, le612, hf613, le616, hf617, le620, hf621, hb⟩
           replace HS := HS.newNs hb (foot_cons hf613 (foot_cons hf617 (foot_cons hf621 foot_nil)))
           refine ⟨⟨HS.nowO, HS.nowN.2.2.2.2.2, ⟨(HS.mu 9 rfl), (HS.mu 10 rfl), (HS.mu 11 rfl), trivial⟩⟩, _, rfl, ?_⟩
           clear hb
           refine dm_ 7 ?_
           refine dp_ 8 (fun _ => Run.extract rfl rfl rfl) ?_
           refine dp_ 9 (fun _ => Run.extract rfl rfl rfl) ?_
           refine dp_ 10 (fun _ => Run.extract rfl rfl rfl) ?_
           exact by (
           refine WD.alloc (v := .agg #[sn, sn]) (cs := #[sn, sn]) 11 (w_none rfl) HS rfl (by kernel_rfl) rfl (fun b622 w623 hb622 HS => ?_)
           refine ⟨⟨HS.nowO, HS.nowN.2.2.2.2.2, ⟨(HS.mu 10 rfl), (HS.mu 11 rfl), (HS.mu 12 rfl), trivial⟩⟩, ?_⟩
           exact useWD X35 ⟨b622, b577, A597, t36, c598, A599, c600, A601, t579, c602, A603, t586, c604, A605, c606, A610, t607, c611, A614, c615, A618, c619, I595, bl596, I593, bl594, I584, I45, bl46, I43, rfl, H, le612, le616, le620, (St.sel HS [6, 0, 1, 2, 3, 4, 5, 7, 8, 9, 10, 11, 12])⟩ )))
         · have HT_ := True.intro
           refine WDo.alloc (v := .agg #[sn, sn]) (cs := #[sn, sn]) 11 (w_none rfl) HS rfl (by kernel_rfl) rfl (fun b624 w625 hb624 HS => ?_)
           refine ⟨⟨HS.nowO, HS.nowN.2.2, ⟨(HS.mu 10 rfl), (HS.mu 11 rfl), (HS.mu 12 rfl), trivial⟩⟩, ?_⟩
           obtain ⟨A626, c627, rfl⟩ := row_slice (HS.mu 9 rfl)
           obtain ⟨A628, c629, rfl⟩ := row_slice (HS.mu 7 rfl)
           exact by (
           obtain ⟨A630, c631, rfl⟩ := row_slice (HS.mu 5 rfl)
           obtain ⟨A632, c633, rfl⟩ := row_slice (HS.mu 3 rfl)
           obtain ⟨A634, c635, rfl⟩ := row_slice (HS.mu 1 rfl)
           obtain ⟨t636, ha637, H⟩ := bind_some H
           refine dc_ 6 (w_none rfl) func46 (spec_AddCell.runs k t36 A626 c627 A628 c629 t579 A630 c631 t586 A632 c633 A634 c635 t636.1 t636.2.1 t636.2.2 _ (row_C rfl (HS.mu 9 rfl) (HS.getN 1 rfl)) (row_le (HS.mu 9 rfl)) (row_C rfl (HS.mu 7 rfl) (HS.elsK 8 rfl)) (row_le (HS.mu 7 rfl)) (row_C rfl (HS.mu 5 rfl) (HS.getN 0 rfl)) (row_le (HS.mu 5 rfl)) (row_C rfl (HS.mu 3 rfl) (HS.elsK 4 rfl)) (row_le (HS.mu 3 rfl)) (row_C rfl (HS.mu 1 rfl) (HS.elsK 2 rfl)) (row_le (HS.mu 1 rfl)) ha637) ?_
           clear ha637
           rintro _ w638 ⟨A639, c640, A643, c644, A647, c648, rfl, le641, hf642, le645, hf646, le649, hf650, hb⟩
           replace HS := HS.newNs hb (foot_cons hf642 (foot_cons hf646 (foot_cons hf650 foot_nil)))
           exact by (
           refine ⟨⟨HS.nowO, HS.nowN.2.2.2.2.2, ⟨(HS.mu 10 rfl), (HS.mu 11 rfl), (HS.mu 12 rfl), trivial⟩⟩, _, rfl, ?_⟩
           clear hb
           refine dm_ 7 ?_
           refine dp_ 8 (fun _ => Run.extract rfl rfl rfl) ?_
           refine dp_ 9 (fun _ => Run.extract rfl rfl rfl) ?_
           refine dp_ 10 (fun _ => Run.extract rfl rfl rfl) ?_
           exact useWD X35 ⟨b624, b577, A626, t36, c627, A628, c629, A630, t579, c631, A632, t586, c633, A634, c635, A639, t636, c640, A643, c644, A647, c648, I595, bl596, I593, bl594, I584, I45, bl46, I43, rfl, H, le641, le645, le649, (St.sel HS [6, 0, 1, 2, 3, 4, 5, 7, 8, 9, 10, 11, 12])⟩ )))
       · have HT_ := True.intro
         exact by (
         refine WDo.alloc (v := .agg #[sn, sn]) (cs := #[sn, sn]) 11 (w_none rfl) HS rfl (by kernel_rfl) rfl (fun b651 w652 hb651 HS => ?_)
         refine ⟨⟨HS.nowO, HS.nowN.2.2, ⟨(HS.mu 6 rfl), (HS.mu 7 rfl), (HS.mu 8 rfl), trivial⟩⟩, ?_⟩
         obtain ⟨t653, ha654, H⟩ := bind_some H
         refine dc_ 5 (w_none rfl) func74 (laws_toCell.runs k (⟨x2.f0, x2.f1⟩ : S98) A2_0 c2_0 A2_1 c2_1 t653 _ (HS.getO 3 rfl) hc2_0 (HS.getO 4 rfl) hc2_1 ha654) ?_
         clear ha654
         rintro _ w655 ⟨v656, bl657, v658, bl659, rfl, hO_, hb⟩
         replace HS := HS.got hb hO_
         dsimp only [List.cons_append, List.nil_append] at HS
         exact by (
         clear hO_
         obtain ⟨I660, bl661, HS⟩ := HS.unseal (sz := 1) rfl
         replace HS := HS.front 2 rfl
         dsimp only [List.eraseIdx] at HS
         obtain ⟨I662, bl663, HS⟩ := HS.unseal (sz := 1) rfl
         refine ⟨⟨HS.nowO, HS.nowN.2.2, ⟨(HS.mu 10 rfl), (HS.mu 11 rfl), (HS.mu 12 rfl), trivial⟩⟩, _, rfl, ?_⟩
         clear hb
         obtain ⟨A664, c665, rfl⟩ := row_slice (HS.mu 9 rfl)
         exact by (
         obtain ⟨A666, c667, rfl⟩ := row_slice (HS.mu 7 rfl)
         obtain ⟨A668, c669, rfl⟩ := row_slice (HS.mu 5 rfl)
         obtain ⟨A670, c671, rfl⟩ := row_slice (HS.mu 2 rfl)
         obtain ⟨A672, c673, rfl⟩ := row_slice (HS.mu 0 rfl)
         obtain ⟨t674, ha675, H⟩ := bind_some H
         refine dc_ 6 (w_none rfl) func46 (spec_AddCell.runs k t36 A664 c665 A666 c667 t579 A668 c669 t653 A670 c671 A672 c673 t674.1 t674.2.1 t674.2.2 _ (row_C rfl (HS.mu 9 rfl) (HS.getN 1 rfl)) (row_le (HS.mu 9 rfl)) (row_C rfl (HS.mu 7 rfl) (HS.elsK 8 rfl)) (row_le (HS.mu 7 rfl)) (row_C rfl (HS.mu 5 rfl) (HS.getN 0 rfl)) (row_le (HS.mu 5 rfl)) (row_C rfl (HS.mu 2 rfl) (HS.elsK 3 rfl)) (row_le (HS.mu 2 rfl)) (row_C rfl (HS.mu 0 rfl) (HS.elsK 1 rfl)) (row_le (HS.mu 0 rfl)) ha675) ?_
         clear ha675
         rintro _ w676 ⟨A677, c678, A681, c682, A685, c686, rfl, le679, hf680, le683, hf684, le687, hf688, hb⟩
         exact by (
         replace HS := HS.newNs hb (foot_cons hf680 (foot_cons hf684 (foot_cons hf688 foot_nil)))
         refine ⟨⟨HS.nowO, HS.nowN.2.2.2.2.2, ⟨(HS.mu 10 rfl), (HS.mu 11 rfl), (HS.mu 12 rfl), trivial⟩⟩, _, rfl, ?_⟩
         clear hb
         refine dm_ 7 ?_
         refine dp_ 8 (fun _ => Run.extract rfl rfl rfl) ?_
         refine dp_ 9 (fun _ => Run.extract rfl rfl rfl) ?_
         refine dp_ 10 (fun _ => Run.extract rfl rfl rfl) ?_
         exact useWD X35 ⟨b651, b577, A664, t36, c665, A666, c667, A668, t579, c669, A670, t653, c671, A672, c673, A677, t674, c678, A681, c682, A685, c686, I662, bl663, I660, bl661, I584, I45, bl46, I43, rfl, H, le679, le683, le687, (St.sel HS [6, 4, 0, 1, 2, 3, 5, 7, 8, 9, 10, 11, 12])⟩ ))))))
     · have HT_ := True.intro
       exact by (
       refine WDo.alloc (v := .agg #[sn, sn]) (cs := #[sn, sn]) 11 (w_none rfl) HS rfl (by kernel_rfl) rfl (fun b689 w690 hb689 HS => ?_)
       refine ⟨⟨HS.nowO, HS.nowN.2, ⟨(HS.mu 5 rfl), (HS.mu 6 rfl), (HS.mu 7 rfl), trivial⟩⟩, ?_⟩
       obtain ⟨t691, ha692, H⟩ := bind_some H
       refine dc_ 3 (w_none rfl) func61 (laws_toTable.runs k (⟨x1.f0, x1.f1⟩ : S85) A1_0 c1_0 t691 _ (HS.getO 2 rfl) hc1_0 ha692) ?_
       clear ha692
       rintro _ w693 ⟨v694, bl695, rfl, hO_, hb⟩
       replace HS := HS.got hb hO_
       dsimp only [List.cons_append, List.nil_append] at HS
       exact by (
       clear hO_
       obtain ⟨I696, bl697, HS⟩ := HS.unseal (sz := 1) rfl
       replace HS := HS.freezeN 1 (p := (rF kI t691.f0 I696)) rfl (fun _ hP_ _ => RepsB.reps hP_)
       dsimp only [List.eraseIdx] at HS
       refine ⟨⟨HS.nowO, HS.nowN.2.2, ⟨(HS.mu 6 rfl), (HS.mu 7 rfl), (HS.mu 8 rfl), trivial⟩⟩, _, rfl, ?_⟩
       clear hb
       obtain ⟨t698, ha699, H⟩ := bind_some H
       refine dc_ 5 (w_none rfl) func74 (laws_toCell.runs k (⟨x2.f0, x2.f1⟩ : S98) A2_0 c2_0 A2_1 c2_1 t698 _ (HS.getO 3 rfl) hc2_0 (HS.getO 4 rfl) hc2_1 ha699) ?_
       exact by (
       clear ha699
       rintro _ w700 ⟨v701, bl702, v703, bl704, rfl, hO_, hb⟩
       replace HS := HS.got hb hO_
       dsimp only [List.cons_append, List.nil_append] at HS
       clear hO_
       obtain ⟨I705, bl706, HS⟩ := HS.unseal (sz := 1) rfl
       replace HS := HS.front 2 rfl
       dsimp only [List.eraseIdx] at HS
       exact by (
       obtain ⟨I707, bl708, HS⟩ := HS.unseal (sz := 1) rfl
       refine ⟨⟨HS.nowO, HS.nowN.2.2, ⟨(HS.mu 10 rfl), (HS.mu 11 rfl), (HS.mu 12 rfl), trivial⟩⟩, _, rfl, ?_⟩
       clear hb
       obtain ⟨A709, c710, rfl⟩ := row_slice (HS.mu 9 rfl)
       obtain ⟨A711, c712, rfl⟩ := row_slice (HS.mu 7 rfl)
       obtain ⟨A713, c714, rfl⟩ := row_slice (HS.mu 4 rfl)
       obtain ⟨A715, c716, rfl⟩ := row_slice (HS.mu 2 rfl)
       obtain ⟨A717, c718, rfl⟩ := row_slice (HS.mu 0 rfl)
       exact by (
       obtain ⟨t719, ha720, H⟩ := bind_some H
       refine dc_ 6 (w_none rfl) func46 (spec_AddCell.runs k t36 A709 c710 A711 c712 t691 A713 c714 t698 A715 c716 A717 c718 t719.1 t719.2.1 t719.2.2 _ (row_C rfl (HS.mu 9 rfl) (HS.getN 1 rfl)) (row_le (HS.mu 9 rfl)) (row_C rfl (HS.mu 7 rfl) (HS.elsK 8 rfl)) (row_le (HS.mu 7 rfl)) (row_C rfl (HS.mu 4 rfl) (HS.getN 0 rfl)) (row_le (HS.mu 4 rfl)) (row_C rfl (HS.mu 2 rfl) (HS.elsK 3 rfl)) (row_le (HS.mu 2 rfl)) (row_C rfl (HS.mu 0 rfl) (HS.elsK 1 rfl)) (row_le (HS.mu 0 rfl)) ha720) ?_
       clear ha720
       rintro _ w721 ⟨A722, c723, A726, c727, A730, c731, rfl, le724, hf725, le728, hf729, le732, hf733, hb⟩
       replace HS := HS.newNs hb (foot_cons hf725 (foot_cons hf729 (foot_cons hf733 foot_nil)))
       refine ⟨⟨HS.nowO, HS.nowN.2.2.2.2.2, ⟨(HS.mu 10 rfl), (HS.mu 11 rfl), (HS.mu 12 rfl), trivial⟩⟩, _, rfl, ?_⟩
       clear hb
       refine dm_ 7 ?_
       exact by (
       refine dp_ 8 (fun _ => Run.extract rfl rfl rfl) ?_
       refine dp_ 9 (fun _ => Run.extract rfl rfl rfl) ?_
       refine dp_ 10 (fun _ => Run.extract rfl rfl rfl) ?_
       exact useWD X35 ⟨b689, b577, A709, t36, c710, A711, c712, A713, t691, c714, A715, t698, c716, A717, c718, A722, t719, c723, A726, c727, A730, c731, I707, bl708, I705, bl706, I696, I45, bl46, I43, rfl, H, le724, le728, le732, (St.sel HS [6, 5, 0, 1, 2, 3, 4, 7, 8, 9, 10, 11, 12])⟩ )))))))))
 · have HT_ := True.intro
   refine WDo.alloc (v := .agg #[sn, sn]) (cs := #[sn, sn]) 11 (w_none rfl) HS rfl (by kernel_rfl) rfl (fun b734 w735 hb734 HS => ?_)
   refine ⟨⟨HS.nowO, HS.nowN, ⟨(HS.mu 1 rfl), (HS.mu 2 rfl), (HS.mu 3 rfl), trivial⟩⟩, ?_⟩
   refine two__ 1 12 ?_ ?_
   · have HT_ := True.intro
     exact by (
     obtain ⟨t736, ha737, H⟩ := bind_some H
     refine dco_ 1 (w_none rfl) func60 (laws_toStore.runs k (⟨x0.f0, x0.f1⟩ : S84) A0_0 c0_0 A0_1 c0_1 t736 _ (HS.getO 0 rfl) hc0_0 (HS.getO 1 rfl) hc0_1 ha737) ?_
     clear ha737
     rintro _ w738 ⟨v739, bl740, v741, bl742, rfl, hO_, hb⟩
     replace HS := HS.got hb hO_
     dsimp only [List.cons_append, List.nil_append] at HS
     clear hO_
     obtain ⟨I743, bl744, HS⟩ := HS.unseal (sz := 1) rfl
     exact by (
     replace HS := HS.freezeN 1 (p := (rF kI t736.f0 I743)) rfl (fun _ hP_ _ => RepsB.reps hP_)
     dsimp only [List.eraseIdx] at HS
     replace HS := HS.front 1 rfl
     dsimp only [List.eraseIdx] at HS
     obtain ⟨I745, bl746, HS⟩ := HS.unseal (sz := 1) rfl
     refine ⟨⟨HS.nowO, HS.nowN.2, ⟨(HS.mu 4 rfl), (HS.mu 5 rfl), (HS.mu 6 rfl), trivial⟩⟩, _, rfl, ?_⟩
     clear hb
     refine two__ 3 12 ?_ ?_
     · have HT_ := True.intro
       exact by (
       obtain ⟨t747, ha748, H⟩ := bind_some H
       refine dco_ 3 (w_none rfl) func61 (laws_toTable.runs k (⟨x1.f0, x1.f1⟩ : S85) A1_0 c1_0 t747 _ (HS.getO 2 rfl) hc1_0 ha748) ?_
       clear ha748
       rintro _ w749 ⟨v750, bl751, rfl, hO_, hb⟩
       replace HS := HS.got hb hO_
       dsimp only [List.cons_append, List.nil_append] at HS
       clear hO_
       obtain ⟨I752, bl753, HS⟩ := HS.unseal (sz := 1) rfl
       exact by (
       replace HS := HS.freezeN 1 (p := (rF kI t747.f0 I752)) rfl (fun _ hP_ _ => RepsB.reps hP_)
       dsimp only [List.eraseIdx] at HS
       refine ⟨⟨HS.nowO, HS.nowN.2.2, ⟨(HS.mu 5 rfl), (HS.mu 6 rfl), (HS.mu 7 rfl), trivial⟩⟩, _, rfl, ?_⟩
       clear hb
       refine two__ 5 12 ?_ ?_
       · have HT_ := True.intro
         obtain ⟨t754, ha755, H⟩ := bind_some H
         refine dco_ 5 (w_none rfl) func74 (laws_toCell.runs k (⟨x2.f0, x2.f1⟩ : S98) A2_0 c2_0 A2_1 c2_1 t754 _ (HS.getO 3 rfl) hc2_0 (HS.getO 4 rfl) hc2_1 ha755) ?_
         exact by (
         clear ha755
         rintro _ w756 ⟨v757, bl758, v759, bl760, rfl, hO_, hb⟩
         replace HS := HS.got hb hO_
         dsimp only [List.cons_append, List.nil_append] at HS
         clear hO_
         obtain ⟨I761, bl762, HS⟩ := HS.unseal (sz := 1) rfl
         replace HS := HS.front 2 rfl
         dsimp only [List.eraseIdx] at HS
         exact by (
         obtain ⟨I763, bl764, HS⟩ := HS.unseal (sz := 1) rfl
         refine ⟨⟨HS.nowO, HS.nowN.2.2, ⟨(HS.mu 9 rfl), (HS.mu 10 rfl), (HS.mu 11 rfl), trivial⟩⟩, _, rfl, ?_⟩
         clear hb
         refine two__ 6 12 ?_ ?_
         · have HT_ := True.intro
           obtain ⟨A765, c766, rfl⟩ := row_slice (HS.mu 7 rfl)
           obtain ⟨A767, c768, rfl⟩ := row_slice (HS.mu 5 rfl)
           obtain ⟨A769, c770, rfl⟩ := row_slice (HS.mu 4 rfl)
           exact by (
           obtain ⟨A771, c772, rfl⟩ := row_slice (HS.mu 2 rfl)
           obtain ⟨A773, c774, rfl⟩ := row_slice (HS.mu 0 rfl)
           obtain ⟨t775, ha776, H⟩ := bind_some H
           refine dco_ 6 (w_none rfl) func46 (spec_AddCell.runs k t736 A765 c766 A767 c768 t747 A769 c770 t754 A771 c772 A773 c774 t775.1 t775.2.1 t775.2.2 _ (row_C rfl (HS.mu 7 rfl) (HS.getN 1 rfl)) (row_le (HS.mu 7 rfl)) (row_C rfl (HS.mu 5 rfl) (HS.elsK 6 rfl)) (row_le (HS.mu 5 rfl)) (row_C rfl (HS.mu 4 rfl) (HS.getN 0 rfl)) (row_le (HS.mu 4 rfl)) (row_C rfl (HS.mu 2 rfl) (HS.elsK 3 rfl)) (row_le (HS.mu 2 rfl)) (row_C rfl (HS.mu 0 rfl) (HS.elsK 1 rfl)) (row_le (HS.mu 0 rfl)) ha776) ?_
           clear ha776
           rintro _ w777 ⟨A778, c779, A782, c783, A786, c787, rfl, le780, hf781, le784, hf785, le788, hf789, hb⟩
           replace HS := HS.newNs hb (foot_cons hf781 (foot_cons hf785 (foot_cons hf789 foot_nil)))
           refine ⟨⟨HS.nowO, HS.nowN.2.2.2.2.2, ⟨(HS.mu 9 rfl), (HS.mu 10 rfl), (HS.mu 11 rfl), trivial⟩⟩, _, rfl, ?_⟩
           exact by (
           clear hb
           refine dm_ 7 ?_
           refine dp_ 8 (fun _ => Run.extract rfl rfl rfl) ?_
           refine dp_ 9 (fun _ => Run.extract rfl rfl rfl) ?_
           refine dp_ 10 (fun _ => Run.extract rfl rfl rfl) ?_
           refine WD.alloc (v := .agg #[sn, vi 0]) (cs := #[sn, vi 0]) 12 (w_none rfl) HS rfl (by kernel_rfl) rfl (fun b790 w791 hb790 HS => ?_)
           refine ⟨⟨HS.nowO, HS.nowN.2.2.2.2.2, ⟨(HS.mu 10 rfl), (HS.mu 11 rfl), (HS.mu 12 rfl), trivial⟩⟩, ?_⟩
           exact useWD X35 ⟨b734, b790, A765, t736, c766, A767, c768, A769, t747, c770, A771, t754, c772, A773, c774, A778, t775, c779, A782, c783, A786, c787, I763, bl764, I761, bl762, I752, I745, bl746, I743, rfl, H, le780, le784, le788, (St.sel HS [0, 9, 1, 2, 3, 4, 5, 6, 7, 8, 10, 11, 12])⟩ ))
         · have HT_ := True.intro
           exact by (
           refine WDo.alloc (v := .agg #[sn, vi 0]) (cs := #[sn, vi 0]) 12 (w_none rfl) HS rfl (by kernel_rfl) rfl (fun b792 w793 hb792 HS => ?_)
           refine ⟨⟨HS.nowO, HS.nowN.2.2, ⟨(HS.mu 10 rfl), (HS.mu 11 rfl), (HS.mu 12 rfl), trivial⟩⟩, ?_⟩
           obtain ⟨A794, c795, rfl⟩ := row_slice (HS.mu 8 rfl)
           obtain ⟨A796, c797, rfl⟩ := row_slice (HS.mu 6 rfl)
           obtain ⟨A798, c799, rfl⟩ := row_slice (HS.mu 5 rfl)
           obtain ⟨A800, c801, rfl⟩ := row_slice (HS.mu 3 rfl)
           obtain ⟨A802, c803, rfl⟩ := row_slice (HS.mu 1 rfl)
           obtain ⟨t804, ha805, H⟩ := bind_some H
           exact by (
           refine dc_ 6 (w_none rfl) func46 (spec_AddCell.runs k t736 A794 c795 A796 c797 t747 A798 c799 t754 A800 c801 A802 c803 t804.1 t804.2.1 t804.2.2 _ (row_C rfl (HS.mu 8 rfl) (HS.getN 1 rfl)) (row_le (HS.mu 8 rfl)) (row_C rfl (HS.mu 6 rfl) (HS.elsK 7 rfl)) (row_le (HS.mu 6 rfl)) (row_C rfl (HS.mu 5 rfl) (HS.getN 0 rfl)) (row_le (HS.mu 5 rfl)) (row_C rfl (HS.mu 3 rfl) (HS.elsK 4 rfl)) (row_le (HS.mu 3 rfl)) (row_C rfl (HS.mu 1 rfl) (HS.elsK 2 rfl)) (row_le (HS.mu 1 rfl)) ha805) ?_
           clear ha805
           rintro _ w806 ⟨A807, c808, A811, c812, A815, c816, rfl, le809, hf810, le813, hf814, le817, hf818, hb⟩
           replace HS := HS.newNs hb (foot_cons hf810 (foot_cons hf814 (foot_cons hf818 foot_nil)))
           refine ⟨⟨HS.nowO, HS.nowN.2.2.2.2.2, ⟨(HS.mu 10 rfl), (HS.mu 11 rfl), (HS.mu 12 rfl), trivial⟩⟩, _, rfl, ?_⟩
           clear hb
           refine dm_ 7 ?_
           refine dp_ 8 (fun _ => Run.extract rfl rfl rfl) ?_
           exact by (
           refine dp_ 9 (fun _ => Run.extract rfl rfl rfl) ?_
           refine dp_ 10 (fun _ => Run.extract rfl rfl rfl) ?_
           exact useWD X35 ⟨b734, b792, A794, t736, c795, A796, c797, A798, t747, c799, A800, t754, c801, A802, c803, A807, t804, c808, A811, c812, A815, c816, I763, bl764, I761, bl762, I752, I745, bl746, I743, rfl, H, le809, le813, le817, (St.sel HS [0, 9, 1, 2, 3, 4, 5, 6, 7, 8, 10, 11, 12])⟩ )))))
       · have HT_ := True.intro
         refine WDo.alloc (v := .agg #[sn, vi 0]) (cs := #[sn, vi 0]) 12 (w_none rfl) HS rfl (by kernel_rfl) rfl (fun b819 w820 hb819 HS => ?_)
         refine ⟨⟨HS.nowO, HS.nowN.2.2, ⟨(HS.mu 6 rfl), (HS.mu 7 rfl), (HS.mu 8 rfl), trivial⟩⟩, ?_⟩
         obtain ⟨t821, ha822, H⟩ := bind_some H
         refine dc_ 5 (w_none rfl) func74 (laws_toCell.runs k (⟨x2.f0, x2.f1⟩ : S98) A2_0 c2_0 A2_1 c2_1 t821 _ (HS.getO 3 rfl) hc2_0 (HS.getO 4 rfl) hc2_1 ha822) ?_
         exact by (
         clear ha822
         rintro _ w823 ⟨v824, bl825, v826, bl827, rfl, hO_, hb⟩
         replace HS := HS.got hb hO_
         dsimp only [List.cons_append, List.nil_append] at HS
         clear hO_
         obtain ⟨I828, bl829, HS⟩ := HS.unseal (sz := 1) rfl
         replace HS := HS.front 2 rfl
         dsimp only [List.eraseIdx] at HS
         exact by (
         obtain ⟨I830, bl831, HS⟩ := HS.unseal (sz := 1) rfl
         refine ⟨⟨HS.nowO, HS.nowN.2.2, ⟨(HS.mu 10 rfl), (HS.mu 11 rfl), (HS.mu 12 rfl), trivial⟩⟩, _, rfl, ?_⟩
         clear hb
         obtain ⟨A832, c833, rfl⟩ := row_slice (HS.mu 8 rfl)
         obtain ⟨A834, c835, rfl⟩ := row_slice (HS.mu 6 rfl)
         obtain ⟨A836, c837, rfl⟩ := row_slice (HS.mu 5 rfl)
         obtain ⟨A838, c839, rfl⟩ := row_slice (HS.mu 2 rfl)
         obtain ⟨A840, c841, rfl⟩ := row_slice (HS.mu 0 rfl)
         exact by (
         obtain ⟨t842, ha843, H⟩ := bind_some H
         refine dc_ 6 (w_none rfl) func46 (spec_AddCell.runs k t736 A832 c833 A834 c835 t747 A836 c837 t821 A838 c839 A840 c841 t842.1 t842.2.1 t842.2.2 _ (row_C rfl (HS.mu 8 rfl) (HS.getN 1 rfl)) (row_le (HS.mu 8 rfl)) (row_C rfl (HS.mu 6 rfl) (HS.elsK 7 rfl)) (row_le (HS.mu 6 rfl)) (row_C rfl (HS.mu 5 rfl) (HS.getN 0 rfl)) (row_le (HS.mu 5 rfl)) (row_C rfl (HS.mu 2 rfl) (HS.elsK 3 rfl)) (row_le (HS.mu 2 rfl)) (row_C rfl (HS.mu 0 rfl) (HS.elsK 1 rfl)) (row_le (HS.mu 0 rfl)) ha843) ?_
         clear ha843
         rintro _ w844 ⟨A845, c846, A849, c850, A853, c854, rfl, le847, hf848, le851, hf852, le855, hf856, hb⟩
         replace HS := HS.newNs hb (foot_cons hf848 (foot_cons hf852 (foot_cons hf856 foot_nil)))
         refine ⟨⟨HS.nowO, HS.nowN.2.2.2.2.2, ⟨(HS.mu 10 rfl), (HS.mu 11 rfl), (HS.mu 12 rfl), trivial⟩⟩, _, rfl, ?_⟩
         clear hb
         refine dm_ 7 ?_
         exact by (
         refine dp_ 8 (fun _ => Run.extract rfl rfl rfl) ?_
         refine dp_ 9 (fun _ => Run.extract rfl rfl rfl) ?_
         refine dp_ 10 (fun _ => Run.extract rfl rfl rfl) ?_
         exact useWD X35 ⟨b734, b819, A832, t736, c833, A834, c835, A836, t747, c837, A838, t821, c839, A840, c841, A845, t842, c846, A849, c850, A853, c854, I830, bl831, I828, bl829, I752, I745, bl746, I743, rfl, H, le847, le851, le855, (St.sel HS [4, 9, 0, 1, 2, 3, 5, 6, 7, 8, 10, 11, 12])⟩ ))))))
     · have HT_ := True.intro
       refine WDo.alloc (v := .agg #[sn, vi 0]) (cs := #[sn, vi 0]) 12 (w_none rfl) HS rfl (by kernel_rfl) rfl (fun b857 w858 hb857 HS => ?_)
       refine ⟨⟨HS.nowO, HS.nowN.2, ⟨(HS.mu 5 rfl), (HS.mu 6 rfl), (HS.mu 7 rfl), trivial⟩⟩, ?_⟩
       obtain ⟨t859, ha860, H⟩ := bind_some H
       exact by (
       refine dc_ 3 (w_none rfl) func61 (laws_toTable.runs k (⟨x1.f0, x1.f1⟩ : S85) A1_0 c1_0 t859 _ (HS.getO 2 rfl) hc1_0 ha860) ?_
       clear ha860
       rintro _ w861 ⟨v862, bl863, rfl, hO_, hb⟩
       replace HS := HS.got hb hO_
       dsimp only [List.cons_append, List.nil_append] at HS
       clear hO_
       obtain ⟨I864, bl865, HS⟩ := HS.unseal (sz := 1) rfl
       replace HS := HS.freezeN 1 (p := (rF kI t859.f0 I864)) rfl (fun _ hP_ _ => RepsB.reps hP_)
       exact by (
       dsimp only [List.eraseIdx] at HS
       refine ⟨⟨HS.nowO, HS.nowN.2.2, ⟨(HS.mu 6 rfl), (HS.mu 7 rfl), (HS.mu 8 rfl), trivial⟩⟩, _, rfl, ?_⟩
       clear hb
       obtain ⟨t866, ha867, H⟩ := bind_some H
       refine dc_ 5 (w_none rfl) func74 (laws_toCell.runs k (⟨x2.f0, x2.f1⟩ : S98) A2_0 c2_0 A2_1 c2_1 t866 _ (HS.getO 3 rfl) hc2_0 (HS.getO 4 rfl) hc2_1 ha867) ?_
       clear ha867
       rintro _ w868 ⟨v869, bl870, v871, bl872, rfl, hO_, hb⟩
       replace HS := HS.got hb hO_
       exact by (
       dsimp only [List.cons_append, List.nil_append] at HS
       clear hO_
       obtain ⟨I873, bl874, HS⟩ := HS.unseal (sz := 1) rfl
       replace HS := HS.front 2 rfl
       dsimp only [List.eraseIdx] at HS
       obtain ⟨I875, bl876, HS⟩ := HS.unseal (sz := 1) rfl
       refine ⟨⟨HS.nowO, HS.nowN.2.2, ⟨(HS.mu 10 rfl), (HS.mu 11 rfl), (HS.mu 12 rfl), trivial⟩⟩, _, rfl, ?_⟩
       clear hb
       exact by (
       obtain ⟨A877, c878, rfl⟩ := row_slice (HS.mu 8 rfl)
       obtain ⟨A879, c880, rfl⟩ := row_slice (HS.mu 6 rfl)
       obtain ⟨A881, c882, rfl⟩ := row_slice (HS.mu 4 rfl)
       obtain ⟨A883, c884, rfl⟩ := row_slice (HS.mu 2 rfl)
       obtain ⟨A885, c886, rfl⟩ := row_slice (HS.mu 0 rfl)
       obtain ⟨t887, ha888, H⟩ := bind_some H
       refine dc_ 6 (w_none rfl) func46 (spec_AddCell.runs k t736 A877 c878 A879 c880 t859 A881 c882 t866 A883 c884 A885 c886 t887.1 t887.2.1 t887.2.2 _ (row_C rfl (HS.mu 8 rfl) (HS.getN 1 rfl)) (row_le (HS.mu 8 rfl)) (row_C rfl (HS.mu 6 rfl) (HS.elsK 7 rfl)) (row_le (HS.mu 6 rfl)) (row_C rfl (HS.mu 4 rfl) (HS.getN 0 rfl)) (row_le (HS.mu 4 rfl)) (row_C rfl (HS.mu 2 rfl) (HS.elsK 3 rfl)) (row_le (HS.mu 2 rfl)) (row_C rfl (HS.mu 0 rfl) (HS.elsK 1 rfl)) (row_le (HS.mu 0 rfl)) ha888) ?_
       clear ha888
       exact by (
       rintro _ w889 ⟨A890, c891, A894, c895, A898, c899, rfl, le892, hf893, le896, hf897, le900, hf901, hb⟩
       replace HS := HS.newNs hb (foot_cons hf893 (foot_cons hf897 (foot_cons hf901 foot_nil)))
       refine ⟨⟨HS.nowO, HS.nowN.2.2.2.2.2, ⟨(HS.mu 10 rfl), (HS.mu 11 rfl), (HS.mu 12 rfl), trivial⟩⟩, _, rfl, ?_⟩
       clear hb
       refine dm_ 7 ?_
       refine dp_ 8 (fun _ => Run.extract rfl rfl rfl) ?_
       refine dp_ 9 (fun _ => Run.extract rfl rfl rfl) ?_
       refine dp_ 10 (fun _ => Run.extract rfl rfl rfl) ?_
       exact useWD X35 ⟨b734, b857, A877, t736, c878, A879, c880, A881, t859, c882, A883, t866, c884, A885, c886, A890, t887, c891, A894, c895, A898, c899, I875, bl876, I873, bl874, I864, I745, bl746, I743, rfl, H, le892, le896, le900, (St.sel HS [5, 9, 0, 1, 2, 3, 4, 6, 7, 8, 10, 11, 12])⟩ )))))))
   · have HT_ := True.intro
     exact by (
     refine WDo.alloc (v := .agg #[sn, vi 0]) (cs := #[sn, vi 0]) 12 (w_none rfl) HS rfl (by kernel_rfl) rfl (fun b902 w903 hb902 HS => ?_)
     refine ⟨⟨HS.nowO, HS.nowN, ⟨(HS.mu 2 rfl), (HS.mu 3 rfl), (HS.mu 4 rfl), trivial⟩⟩, ?_⟩
     obtain ⟨t904, ha905, H⟩ := bind_some H
     refine dc_ 1 (w_none rfl) func60 (laws_toStore.runs k (⟨x0.f0, x0.f1⟩ : S84) A0_0 c0_0 A0_1 c0_1 t904 _ (HS.getO 0 rfl) hc0_0 (HS.getO 1 rfl) hc0_1 ha905) ?_
     clear ha905
     rintro _ w906 ⟨v907, bl908, v909, bl910, rfl, hO_, hb⟩
     replace HS := HS.got hb hO_
     dsimp only [List.cons_append, List.nil_append] at HS
     exact by (
     clear hO_
     obtain ⟨I911, bl912, HS⟩ := HS.unseal (sz := 1) rfl
     replace HS := HS.freezeN 1 (p := (rF kI t904.f0 I911)) rfl (fun _ hP_ _ => RepsB.reps hP_)
     dsimp only [List.eraseIdx] at HS
     replace HS := HS.front 1 rfl
     dsimp only [List.eraseIdx] at HS
     obtain ⟨I913, bl914, HS⟩ := HS.unseal (sz := 1) rfl
     refine ⟨⟨HS.nowO, HS.nowN.2, ⟨(HS.mu 5 rfl), (HS.mu 6 rfl), (HS.mu 7 rfl), trivial⟩⟩, _, rfl, ?_⟩
     exact by (
     clear hb
     obtain ⟨t915, ha916, H⟩ := bind_some H
     refine dc_ 3 (w_none rfl) func61 (laws_toTable.runs k (⟨x1.f0, x1.f1⟩ : S85) A1_0 c1_0 t915 _ (HS.getO 2 rfl) hc1_0 ha916) ?_
     clear ha916
     rintro _ w917 ⟨v918, bl919, rfl, hO_, hb⟩
     replace HS := HS.got hb hO_
     dsimp only [List.cons_append, List.nil_append] at HS
     clear hO_
     exact by (
     obtain ⟨I920, bl921, HS⟩ := HS.unseal (sz := 1) rfl
     replace HS := HS.freezeN 1 (p := (rF kI t915.f0 I920)) rfl (fun _ hP_ _ => RepsB.reps hP_)
     dsimp only [List.eraseIdx] at HS
     refine ⟨⟨HS.nowO, HS.nowN.2.2, ⟨(HS.mu 6 rfl), (HS.mu 7 rfl), (HS.mu 8 rfl), trivial⟩⟩, _, rfl, ?_⟩
     clear hb
     obtain ⟨t922, ha923, H⟩ := bind_some H
     refine dc_ 5 (w_none rfl) func74 (laws_toCell.runs k (⟨x2.f0, x2.f1⟩ : S98) A2_0 c2_0 A2_1 c2_1 t922 _ (HS.getO 3 rfl) hc2_0 (HS.getO 4 rfl) hc2_1 ha923) ?_
     clear ha923
     exact by (
     rintro _ w924 ⟨v925, bl926, v927, bl928, rfl, hO_, hb⟩
     replace HS := HS.got hb hO_
     dsimp only [List.cons_append, List.nil_append] at HS
     clear hO_
     obtain ⟨I929, bl930, HS⟩ := HS.unseal (sz := 1) rfl
     replace HS := HS.front 2 rfl
     dsimp only [List.eraseIdx] at HS
     obtain ⟨I931, bl932, HS⟩ := HS.unseal (sz := 1) rfl
     exact by (
     refine ⟨⟨HS.nowO, HS.nowN.2.2, ⟨(HS.mu 10 rfl), (HS.mu 11 rfl), (HS.mu 12 rfl), trivial⟩⟩, _, rfl, ?_⟩
     clear hb
     obtain ⟨A933, c934, rfl⟩ := row_slice (HS.mu 7 rfl)
     obtain ⟨A935, c936, rfl⟩ := row_slice (HS.mu 5 rfl)
     obtain ⟨A937, c938, rfl⟩ := row_slice (HS.mu 4 rfl)
     obtain ⟨A939, c940, rfl⟩ := row_slice (HS.mu 2 rfl)
     obtain ⟨A941, c942, rfl⟩ := row_slice (HS.mu 0 rfl)
     obtain ⟨t943, ha944, H⟩ := bind_some H
     exact by (
     refine dc_ 6 (w_none rfl) func46 (spec_AddCell.runs k t904 A933 c934 A935 c936 t915 A937 c938 t922 A939 c940 A941 c942 t943.1 t943.2.1 t943.2.2 _ (row_C rfl (HS.mu 7 rfl) (HS.getN 1 rfl)) (row_le (HS.mu 7 rfl)) (row_C rfl (HS.mu 5 rfl) (HS.elsK 6 rfl)) (row_le (HS.mu 5 rfl)) (row_C rfl (HS.mu 4 rfl) (HS.getN 0 rfl)) (row_le (HS.mu 4 rfl)) (row_C rfl (HS.mu 2 rfl) (HS.elsK 3 rfl)) (row_le (HS.mu 2 rfl)) (row_C rfl (HS.mu 0 rfl) (HS.elsK 1 rfl)) (row_le (HS.mu 0 rfl)) ha944) ?_
     clear ha944
     rintro _ w945 ⟨A946, c947, A950, c951, A954, c955, rfl, le948, hf949, le952, hf953, le956, hf957, hb⟩
     replace HS := HS.newNs hb (foot_cons hf949 (foot_cons hf953 (foot_cons hf957 foot_nil)))
     refine ⟨⟨HS.nowO, HS.nowN.2.2.2.2.2, ⟨(HS.mu 10 rfl), (HS.mu 11 rfl), (HS.mu 12 rfl), trivial⟩⟩, _, rfl, ?_⟩
     clear hb
     refine dm_ 7 ?_
     refine dp_ 8 (fun _ => Run.extract rfl rfl rfl) ?_
     exact by (
     refine dp_ 9 (fun _ => Run.extract rfl rfl rfl) ?_
     refine dp_ 10 (fun _ => Run.extract rfl rfl rfl) ?_
     exact useWD X35 ⟨b734, b902, A933, t904, c934, A935, c936, A937, t915, c938, A939, t922, c940, A941, c942, A946, t943, c947, A950, c951, A954, c955, I931, bl932, I929, bl930, I920, I913, bl914, I911, rfl, H, le948, le952, le956, (St.sel HS [8, 9, 0, 1, 2, 3, 4, 5, 6, 7, 10, 11, 12])⟩ ))))))))
 · have HT_ := True.intro
   refine WDo.alloc (v := .agg #[sn, vi 0]) (cs := #[sn, vi 0]) 12 (w_none rfl) HS rfl (by kernel_rfl) rfl (fun b958 w959 hb958 HS => ?_)
   refine ⟨⟨HS.nowO, HS.nowN, ⟨(HS.mu 1 rfl), (HS.mu 2 rfl), (HS.mu 3 rfl), trivial⟩⟩, ?_⟩
   refine two__ 1 11 ?_ ?_
   · have HT_ := True.intro
     exact by (
     obtain ⟨t960, ha961, H⟩ := bind_some H
     refine dco_ 1 (w_none rfl) func60 (laws_toStore.runs k (⟨x0.f0, x0.f1⟩ : S84) A0_0 c0_0 A0_1 c0_1 t960 _ (HS.getO 0 rfl) hc0_0 (HS.getO 1 rfl) hc0_1 ha961) ?_
     clear ha961
     rintro _ w962 ⟨v963, bl964, v965, bl966, rfl, hO_, hb⟩
     replace HS := HS.got hb hO_
     dsimp only [List.cons_append, List.nil_append] at HS
     clear hO_
     obtain ⟨I967, bl968, HS⟩ := HS.unseal (sz := 1) rfl
     exact by (
     replace HS := HS.freezeN 1 (p := (rF kI t960.f0 I967)) rfl (fun _ hP_ _ => RepsB.reps hP_)
     dsimp only [List.eraseIdx] at HS
     replace HS := HS.front 1 rfl
     dsimp only [List.eraseIdx] at HS
     obtain ⟨I969, bl970, HS⟩ := HS.unseal (sz := 1) rfl
     refine ⟨⟨HS.nowO, HS.nowN.2, ⟨(HS.mu 4 rfl), (HS.mu 5 rfl), (HS.mu 6 rfl), trivial⟩⟩, _, rfl, ?_⟩
     clear hb
     refine two__ 3 11 ?_ ?_
     · have HT_ := True.intro
       exact by (
       obtain ⟨t971, ha972, H⟩ := bind_some H
       refine dco_ 3 (w_none rfl) func61 (laws_toTable.runs k (⟨x1.f0, x1.f1⟩ : S85) A1_0 c1_0 t971 _ (HS.getO 2 rfl) hc1_0 ha972) ?_
       clear ha972
       rintro _ w973 ⟨v974, bl975, rfl, hO_, hb⟩
       replace HS := HS.got hb hO_
       dsimp only [List.cons_append, List.nil_append] at HS
       clear hO_
       obtain ⟨I976, bl977, HS⟩ := HS.unseal (sz := 1) rfl
       exact by (
       replace HS := HS.freezeN 1 (p := (rF kI t971.f0 I976)) rfl (fun _ hP_ _ => RepsB.reps hP_)
       dsimp only [List.eraseIdx] at HS
       refine ⟨⟨HS.nowO, HS.nowN.2.2, ⟨(HS.mu 5 rfl), (HS.mu 6 rfl), (HS.mu 7 rfl), trivial⟩⟩, _, rfl, ?_⟩
       clear hb
       refine two__ 5 11 ?_ ?_
       · have HT_ := True.intro
         obtain ⟨t978, ha979, H⟩ := bind_some H
         refine dco_ 5 (w_none rfl) func74 (laws_toCell.runs k (⟨x2.f0, x2.f1⟩ : S98) A2_0 c2_0 A2_1 c2_1 t978 _ (HS.getO 3 rfl) hc2_0 (HS.getO 4 rfl) hc2_1 ha979) ?_
         exact by (
         clear ha979
         rintro _ w980 ⟨v981, bl982, v983, bl984, rfl, hO_, hb⟩
         replace HS := HS.got hb hO_
         dsimp only [List.cons_append, List.nil_append] at HS
         clear hO_
         obtain ⟨I985, bl986, HS⟩ := HS.unseal (sz := 1) rfl
         replace HS := HS.front 2 rfl
         dsimp only [List.eraseIdx] at HS
         exact by (
         obtain ⟨I987, bl988, HS⟩ := HS.unseal (sz := 1) rfl
         refine ⟨⟨HS.nowO, HS.nowN.2.2, ⟨(HS.mu 9 rfl), (HS.mu 10 rfl), (HS.mu 11 rfl), trivial⟩⟩, _, rfl, ?_⟩
         clear hb
         refine two__ 6 11 ?_ ?_
         · have HT_ := True.intro
           obtain ⟨A989, c990, rfl⟩ := row_slice (HS.mu 7 rfl)
           obtain ⟨A991, c992, rfl⟩ := row_slice (HS.mu 5 rfl)
           obtain ⟨A993, c994, rfl⟩ := row_slice (HS.mu 4 rfl)
           exact by (
           obtain ⟨A995, c996, rfl⟩ := row_slice (HS.mu 2 rfl)
           obtain ⟨A997, c998, rfl⟩ := row_slice (HS.mu 0 rfl)
           obtain ⟨t999, ha1000, H⟩ := bind_some H
           refine dco_ 6 (w_none rfl) func46 (spec_AddCell.runs k t960 A989 c990 A991 c992 t971 A993 c994 t978 A995 c996 A997 c998 t999.1 t999.2.1 t999.2.2 _ (row_C rfl (HS.mu 7 rfl) (HS.getN 1 rfl)) (row_le (HS.mu 7 rfl)) (row_C rfl (HS.mu 5 rfl) (HS.elsK 6 rfl)) (row_le (HS.mu 5 rfl)) (row_C rfl (HS.mu 4 rfl) (HS.getN 0 rfl)) (row_le (HS.mu 4 rfl)) (row_C rfl (HS.mu 2 rfl) (HS.elsK 3 rfl)) (row_le (HS.mu 2 rfl)) (row_C rfl (HS.mu 0 rfl) (HS.elsK 1 rfl)) (row_le (HS.mu 0 rfl)) ha1000) ?_
           clear ha1000
           rintro _ w1001 ⟨A1002, c1003, A1006, c1007, A1010, c1011, rfl, le1004, hf1005, le1008, hf1009, le1012, hf1013, hb⟩
           replace HS := HS.newNs hb (foot_cons hf1005 (foot_cons hf1009 (foot_cons hf1013 foot_nil)))
           refine ⟨⟨HS.nowO, HS.nowN.2.2.2.2.2, ⟨(HS.mu 9 rfl), (HS.mu 10 rfl), (HS.mu 11 rfl), trivial⟩⟩, _, rfl, ?_⟩
           exact by (
           clear hb
           refine dm_ 7 ?_
           refine dp_ 8 (fun _ => Run.extract rfl rfl rfl) ?_
           refine dp_ 9 (fun _ => Run.extract rfl rfl rfl) ?_
           refine dp_ 10 (fun _ => Run.extract rfl rfl rfl) ?_
           refine WD.alloc (v := .agg #[sn, sn]) (cs := #[sn, sn]) 11 (w_none rfl) HS rfl (by kernel_rfl) rfl (fun b1014 w1015 hb1014 HS => ?_)
           refine ⟨⟨HS.nowO, HS.nowN.2.2.2.2.2, ⟨(HS.mu 10 rfl), (HS.mu 11 rfl), (HS.mu 12 rfl), trivial⟩⟩, ?_⟩
           exact useWD X35 ⟨b1014, b958, A989, t960, c990, A991, c992, A993, t971, c994, A995, t978, c996, A997, c998, A1002, t999, c1003, A1006, c1007, A1010, c1011, I987, bl988, I985, bl986, I976, I969, bl970, I967, rfl, H, le1004, le1008, le1012, (St.sel HS [9, 0, 1, 2, 3, 4, 5, 6, 7, 8, 10, 11, 12])⟩ ))
         · have HT_ := True.intro
           exact by (
           refine WDo.alloc (v := .agg #[sn, sn]) (cs := #[sn, sn]) 11 (w_none rfl) HS rfl (by kernel_rfl) rfl (fun b1016 w1017 hb1016 HS => ?_)
           refine ⟨⟨HS.nowO, HS.nowN.2.2, ⟨(HS.mu 10 rfl), (HS.mu 11 rfl), (HS.mu 12 rfl), trivial⟩⟩, ?_⟩
           obtain ⟨A1018, c1019, rfl⟩ := row_slice (HS.mu 8 rfl)
           obtain ⟨A1020, c1021, rfl⟩ := row_slice (HS.mu 6 rfl)
           obtain ⟨A1022, c1023, rfl⟩ := row_slice (HS.mu 5 rfl)
           obtain ⟨A1024, c1025, rfl⟩ := row_slice (HS.mu 3 rfl)
           obtain ⟨A1026, c1027, rfl⟩ := row_slice (HS.mu 1 rfl)
           obtain ⟨t1028, ha1029, H⟩ := bind_some H
           exact by (
           refine dc_ 6 (w_none rfl) func46 (spec_AddCell.runs k t960 A1018 c1019 A1020 c1021 t971 A1022 c1023 t978 A1024 c1025 A1026 c1027 t1028.1 t1028.2.1 t1028.2.2 _ (row_C rfl (HS.mu 8 rfl) (HS.getN 1 rfl)) (row_le (HS.mu 8 rfl)) (row_C rfl (HS.mu 6 rfl) (HS.elsK 7 rfl)) (row_le (HS.mu 6 rfl)) (row_C rfl (HS.mu 5 rfl) (HS.getN 0 rfl)) (row_le (HS.mu 5 rfl)) (row_C rfl (HS.mu 3 rfl) (HS.elsK 4 rfl)) (row_le (HS.mu 3 rfl)) (row_C rfl (HS.mu 1 rfl) (HS.elsK 2 rfl)) (row_le (HS.mu 1 rfl)) ha1029) ?_
           clear ha1029
           rintro _ w1030 ⟨A1031, c1032, A1035, c1036, A1039, c1040, rfl, le1033, hf1034, le1037, hf1038, le1041, hf1042, hb⟩
           replace HS := HS.newNs hb (foot_cons hf1034 (foot_cons hf1038 (foot_cons hf1042 foot_nil)))
           refine ⟨⟨HS.nowO, HS.nowN.2.2.2.2.2, ⟨(HS.mu 10 rfl), (HS.mu 11 rfl), (HS.mu 12 rfl), trivial⟩⟩, _, rfl, ?_⟩
           clear hb
           refine dm_ 7 ?_
           refine dp_ 8 (fun _ => Run.extract rfl rfl rfl) ?_
           exact by (
           refine dp_ 9 (fun _ => Run.extract rfl rfl rfl) ?_
           refine dp_ 10 (fun _ => Run.extract rfl rfl rfl) ?_
           exact useWD X35 ⟨b1016, b958, A1018, t960, c1019, A1020, c1021, A1022, t971, c1023, A1024, t978, c1025, A1026, c1027, A1031, t1028, c1032, A1035, c1036, A1039, c1040, I987, bl988, I985, bl986, I976, I969, bl970, I967, rfl, H, le1033, le1037, le1041, (St.sel HS [9, 0, 1, 2, 3, 4, 5, 6, 7, 8, 10, 11, 12])⟩ )))))
       · have HT_ := True.intro
         refine WDo.alloc (v := .agg #[sn, sn]) (cs := #[sn, sn]) 11 (w_none rfl) HS rfl (by kernel_rfl) rfl (fun b1043 w1044 hb1043 HS => ?_)
         refine ⟨⟨HS.nowO, HS.nowN.2.2, ⟨(HS.mu 6 rfl), (HS.mu 7 rfl), (HS.mu 8 rfl), trivial⟩⟩, ?_⟩
         obtain ⟨t1045, ha1046, H⟩ := bind_some H
         refine dc_ 5 (w_none rfl) func74 (laws_toCell.runs k (⟨x2.f0, x2.f1⟩ : S98) A2_0 c2_0 A2_1 c2_1 t1045 _ (HS.getO 3 rfl) hc2_0 (HS.getO 4 rfl) hc2_1 ha1046) ?_
         exact by (
         clear ha1046
         rintro _ w1047 ⟨v1048, bl1049, v1050, bl1051, rfl, hO_, hb⟩
         replace HS := HS.got hb hO_
         dsimp only [List.cons_append, List.nil_append] at HS
         clear hO_
         obtain ⟨I1052, bl1053, HS⟩ := HS.unseal (sz := 1) rfl
         replace HS := HS.front 2 rfl
         dsimp only [List.eraseIdx] at HS
         exact by (
         obtain ⟨I1054, bl1055, HS⟩ := HS.unseal (sz := 1) rfl
         refine ⟨⟨HS.nowO, HS.nowN.2.2, ⟨(HS.mu 10 rfl), (HS.mu 11 rfl), (HS.mu 12 rfl), trivial⟩⟩, _, rfl, ?_⟩
         clear hb
         obtain ⟨A1056, c1057, rfl⟩ := row_slice (HS.mu 8 rfl)
         obtain ⟨A1058, c1059, rfl⟩ := row_slice (HS.mu 6 rfl)
         obtain ⟨A1060, c1061, rfl⟩ := row_slice (HS.mu 5 rfl)
         obtain ⟨A1062, c1063, rfl⟩ := row_slice (HS.mu 2 rfl)
         obtain ⟨A1064, c1065, rfl⟩ := row_slice (HS.mu 0 rfl)
         exact by (
         obtain ⟨t1066, ha1067, H⟩ := bind_some H
         refine dc_ 6 (w_none rfl) func46 (spec_AddCell.runs k t960 A1056 c1057 A1058 c1059 t971 A1060 c1061 t1045 A1062 c1063 A1064 c1065 t1066.1 t1066.2.1 t1066.2.2 _ (row_C rfl (HS.mu 8 rfl) (HS.getN 1 rfl)) (row_le (HS.mu 8 rfl)) (row_C rfl (HS.mu 6 rfl) (HS.elsK 7 rfl)) (row_le (HS.mu 6 rfl)) (row_C rfl (HS.mu 5 rfl) (HS.getN 0 rfl)) (row_le (HS.mu 5 rfl)) (row_C rfl (HS.mu 2 rfl) (HS.elsK 3 rfl)) (row_le (HS.mu 2 rfl)) (row_C rfl (HS.mu 0 rfl) (HS.elsK 1 rfl)) (row_le (HS.mu 0 rfl)) ha1067) ?_
         clear ha1067
         rintro _ w1068 ⟨A1069, c1070, A1073, c1074, A1077, c1078, rfl, le1071, hf1072, le1075, hf1076, le1079, hf1080, hb⟩
         replace HS := HS.newNs hb (foot_cons hf1072 (foot_cons hf1076 (foot_cons hf1080 foot_nil)))
         refine ⟨⟨HS.nowO, HS.nowN.2.2.2.2.2, ⟨(HS.mu 10 rfl), (HS.mu 11 rfl), (HS.mu 12 rfl), trivial⟩⟩, _, rfl, ?_⟩
         clear hb
         refine dm_ 7 ?_
         exact by (
         refine dp_ 8 (fun _ => Run.extract rfl rfl rfl) ?_
         refine dp_ 9 (fun _ => Run.extract rfl rfl rfl) ?_
         refine dp_ 10 (fun _ => Run.extract rfl rfl rfl) ?_
         exact useWD X35 ⟨b1043, b958, A1056, t960, c1057, A1058, c1059, A1060, t971, c1061, A1062, t1045, c1063, A1064, c1065, A1069, t1066, c1070, A1073, c1074, A1077, c1078, I1054, bl1055, I1052, bl1053, I976, I969, bl970, I967, rfl, H, le1071, le1075, le1079, (St.sel HS [9, 4, 0, 1, 2, 3, 5, 6, 7, 8, 10, 11, 12])⟩ ))))))
     · have HT_ := True.intro
       refine WDo.alloc (v := .agg #[sn, sn]) (cs := #[sn, sn]) 11 (w_none rfl) HS rfl (by kernel_rfl) rfl (fun b1081 w1082 hb1081 HS => ?_)
       refine ⟨⟨HS.nowO, HS.nowN.2, ⟨(HS.mu 5 rfl), (HS.mu 6 rfl), (HS.mu 7 rfl), trivial⟩⟩, ?_⟩
       obtain ⟨t1083, ha1084, H⟩ := bind_some H
       exact by (
       refine dc_ 3 (w_none rfl) func61 (laws_toTable.runs k (⟨x1.f0, x1.f1⟩ : S85) A1_0 c1_0 t1083 _ (HS.getO 2 rfl) hc1_0 ha1084) ?_
       clear ha1084
       rintro _ w1085 ⟨v1086, bl1087, rfl, hO_, hb⟩
       replace HS := HS.got hb hO_
       dsimp only [List.cons_append, List.nil_append] at HS
       clear hO_
       obtain ⟨I1088, bl1089, HS⟩ := HS.unseal (sz := 1) rfl
       replace HS := HS.freezeN 1 (p := (rF kI t1083.f0 I1088)) rfl (fun _ hP_ _ => RepsB.reps hP_)
       exact by (
       dsimp only [List.eraseIdx] at HS
       refine ⟨⟨HS.nowO, HS.nowN.2.2, ⟨(HS.mu 6 rfl), (HS.mu 7 rfl), (HS.mu 8 rfl), trivial⟩⟩, _, rfl, ?_⟩
       clear hb
       obtain ⟨t1090, ha1091, H⟩ := bind_some H
       refine dc_ 5 (w_none rfl) func74 (laws_toCell.runs k (⟨x2.f0, x2.f1⟩ : S98) A2_0 c2_0 A2_1 c2_1 t1090 _ (HS.getO 3 rfl) hc2_0 (HS.getO 4 rfl) hc2_1 ha1091) ?_
       clear ha1091
       rintro _ w1092 ⟨v1093, bl1094, v1095, bl1096, rfl, hO_, hb⟩
       replace HS := HS.got hb hO_
       exact by (
       dsimp only [List.cons_append, List.nil_append] at HS
       clear hO_
       obtain ⟨I1097, bl1098, HS⟩ := HS.unseal (sz := 1) rfl
       replace HS := HS.front 2 rfl
       dsimp only [List.eraseIdx] at HS
       obtain ⟨I1099, bl1100, HS⟩ := HS.unseal (sz := 1) rfl
       refine ⟨⟨HS.nowO, HS.nowN.2.2, ⟨(HS.mu 10 rfl), (HS.mu 11 rfl), (HS.mu 12 rfl), trivial⟩⟩, _, rfl, ?_⟩
       clear hb
       exact by (
       obtain ⟨A1101, c1102, rfl⟩ := row_slice (HS.mu 8 rfl)
       obtain ⟨A1103, c1104, rfl⟩ := row_slice (HS.mu 6 rfl)
       obtain ⟨A1105, c1106, rfl⟩ := row_slice (HS.mu 4 rfl)
       obtain ⟨A1107, c1108, rfl⟩ := row_slice (HS.mu 2 rfl)
       obtain ⟨A1109, c1110, rfl⟩ := row_slice (HS.mu 0 rfl)
       obtain ⟨t1111, ha1112, H⟩ := bind_some H
       refine dc_ 6 (w_none rfl) func46 (spec_AddCell.runs k t960 A1101 c1102 A1103 c1104 t1083 A1105 c1106 t1090 A1107 c1108 A1109 c1110 t1111.1 t1111.2.1 t1111.2.2 _ (row_C rfl (HS.mu 8 rfl) (HS.getN 1 rfl)) (row_le (HS.mu 8 rfl)) (row_C rfl (HS.mu 6 rfl) (HS.elsK 7 rfl)) (row_le (HS.mu 6 rfl)) (row_C rfl (HS.mu 4 rfl) (HS.getN 0 rfl)) (row_le (HS.mu 4 rfl)) (row_C rfl (HS.mu 2 rfl) (HS.elsK 3 rfl)) (row_le (HS.mu 2 rfl)) (row_C rfl (HS.mu 0 rfl) (HS.elsK 1 rfl)) (row_le (HS.mu 0 rfl)) ha1112) ?_
       clear ha1112
       exact by (
       rintro _ w1113 ⟨A1114, c1115, A1118, c1119, A1122, c1123, rfl, le1116, hf1117, le1120, hf1121, le1124, hf1125, hb⟩
       replace HS := HS.newNs hb (foot_cons hf1117 (foot_cons hf1121 (foot_cons hf1125 foot_nil)))
       refine ⟨⟨HS.nowO, HS.nowN.2.2.2.2.2, ⟨(HS.mu 10 rfl), (HS.mu 11 rfl), (HS.mu 12 rfl), trivial⟩⟩, _, rfl, ?_⟩
       clear hb
       refine dm_ 7 ?_
       refine dp_ 8 (fun _ => Run.extract rfl rfl rfl) ?_
       refine dp_ 9 (fun _ => Run.extract rfl rfl rfl) ?_
       refine dp_ 10 (fun _ => Run.extract rfl rfl rfl) ?_
       exact useWD X35 ⟨b1081, b958, A1101, t960, c1102, A1103, c1104, A1105, t1083, c1106, A1107, t1090, c1108, A1109, c1110, A1114, t1111, c1115, A1118, c1119, A1122, c1123, I1099, bl1100, I1097, bl1098, I1088, I969, bl970, I967, rfl, H, le1116, le1120, le1124, (St.sel HS [9, 5, 0, 1, 2, 3, 4, 6, 7, 8, 10, 11, 12])⟩ )))))))
   · have HT_ := True.intro
     exact by (
     refine WDo.alloc (v := .agg #[sn, sn]) (cs := #[sn, sn]) 11 (w_none rfl) HS rfl (by kernel_rfl) rfl (fun b1126 w1127 hb1126 HS => ?_)
     refine ⟨⟨HS.nowO, HS.nowN, ⟨(HS.mu 2 rfl), (HS.mu 3 rfl), (HS.mu 4 rfl), trivial⟩⟩, ?_⟩
     obtain ⟨t1128, ha1129, H⟩ := bind_some H
     refine dc_ 1 (w_none rfl) func60 (laws_toStore.runs k (⟨x0.f0, x0.f1⟩ : S84) A0_0 c0_0 A0_1 c0_1 t1128 _ (HS.getO 0 rfl) hc0_0 (HS.getO 1 rfl) hc0_1 ha1129) ?_
     clear ha1129
     rintro _ w1130 ⟨v1131, bl1132, v1133, bl1134, rfl, hO_, hb⟩
     replace HS := HS.got hb hO_
     dsimp only [List.cons_append, List.nil_append] at HS
     exact by (
     clear hO_
     obtain ⟨I1135, bl1136, HS⟩ := HS.unseal (sz := 1) rfl
     replace HS := HS.freezeN 1 (p := (rF kI t1128.f0 I1135)) rfl (fun _ hP_ _ => RepsB.reps hP_)
     dsimp only [List.eraseIdx] at HS
     replace HS := HS.front 1 rfl
     dsimp only [List.eraseIdx] at HS
     obtain ⟨I1137, bl1138, HS⟩ := HS.unseal (sz := 1) rfl
     refine ⟨⟨HS.nowO, HS.nowN.2, ⟨(HS.mu 5 rfl), (HS.mu 6 rfl), (HS.mu 7 rfl), trivial⟩⟩, _, rfl, ?_⟩
     exact by (
     clear hb
     obtain ⟨t1139, ha1140, H⟩ := bind_some H
     refine dc_ 3 (w_none rfl) func61 (laws_toTable.runs k (⟨x1.f0, x1.f1⟩ : S85) A1_0 c1_0 t1139 _ (HS.getO 2 rfl) hc1_0 ha1140) ?_
     clear ha1140
     rintro _ w1141 ⟨v1142, bl1143, rfl, hO_, hb⟩
     replace HS := HS.got hb hO_
     dsimp only [List.cons_append, List.nil_append] at HS
     clear hO_
     exact by (
     obtain ⟨I1144, bl1145, HS⟩ := HS.unseal (sz := 1) rfl
     replace HS := HS.freezeN 1 (p := (rF kI t1139.f0 I1144)) rfl (fun _ hP_ _ => RepsB.reps hP_)
     dsimp only [List.eraseIdx] at HS
     refine ⟨⟨HS.nowO, HS.nowN.2.2, ⟨(HS.mu 6 rfl), (HS.mu 7 rfl), (HS.mu 8 rfl), trivial⟩⟩, _, rfl, ?_⟩
     clear hb
     obtain ⟨t1146, ha1147, H⟩ := bind_some H
     refine dc_ 5 (w_none rfl) func74 (laws_toCell.runs k (⟨x2.f0, x2.f1⟩ : S98) A2_0 c2_0 A2_1 c2_1 t1146 _ (HS.getO 3 rfl) hc2_0 (HS.getO 4 rfl) hc2_1 ha1147) ?_
     clear ha1147
     exact by (
     rintro _ w1148 ⟨v1149, bl1150, v1151, bl1152, rfl, hO_, hb⟩
     replace HS := HS.got hb hO_
     dsimp only [List.cons_append, List.nil_append] at HS
     clear hO_
     obtain ⟨I1153, bl1154, HS⟩ := HS.unseal (sz := 1) rfl
     replace HS := HS.front 2 rfl
     dsimp only [List.eraseIdx] at HS
     obtain ⟨I1155, bl1156, HS⟩ := HS.unseal (sz := 1) rfl
     exact by (
     refine ⟨⟨HS.nowO, HS.nowN.2.2, ⟨(HS.mu 10 rfl), (HS.mu 11 rfl), (HS.mu 12 rfl), trivial⟩⟩, _, rfl, ?_⟩
     clear hb
     obtain ⟨A1157, c1158, rfl⟩ := row_slice (HS.mu 7 rfl)
     obtain ⟨A1159, c1160, rfl⟩ := row_slice (HS.mu 5 rfl)
     obtain ⟨A1161, c1162, rfl⟩ := row_slice (HS.mu 4 rfl)
     obtain ⟨A1163, c1164, rfl⟩ := row_slice (HS.mu 2 rfl)
     obtain ⟨A1165, c1166, rfl⟩ := row_slice (HS.mu 0 rfl)
     obtain ⟨t1167, ha1168, H⟩ := bind_some H
     exact by (
     refine dc_ 6 (w_none rfl) func46 (spec_AddCell.runs k t1128 A1157 c1158 A1159 c1160 t1139 A1161 c1162 t1146 A1163 c1164 A1165 c1166 t1167.1 t1167.2.1 t1167.2.2 _ (row_C rfl (HS.mu 7 rfl) (HS.getN 1 rfl)) (row_le (HS.mu 7 rfl)) (row_C rfl (HS.mu 5 rfl) (HS.elsK 6 rfl)) (row_le (HS.mu 5 rfl)) (row_C rfl (HS.mu 4 rfl) (HS.getN 0 rfl)) (row_le (HS.mu 4 rfl)) (row_C rfl (HS.mu 2 rfl) (HS.elsK 3 rfl)) (row_le (HS.mu 2 rfl)) (row_C rfl (HS.mu 0 rfl) (HS.elsK 1 rfl)) (row_le (HS.mu 0 rfl)) ha1168) ?_
     clear ha1168
     rintro _ w1169 ⟨A1170, c1171, A1174, c1175, A1178, c1179, rfl, le1172, hf1173, le1176, hf1177, le1180, hf1181, hb⟩
     replace HS := HS.newNs hb (foot_cons hf1173 (foot_cons hf1177 (foot_cons hf1181 foot_nil)))
     refine ⟨⟨HS.nowO, HS.nowN.2.2.2.2.2, ⟨(HS.mu 10 rfl), (HS.mu 11 rfl), (HS.mu 12 rfl), trivial⟩⟩, _, rfl, ?_⟩
     clear hb
     refine dm_ 7 ?_
     refine dp_ 8 (fun _ => Run.extract rfl rfl rfl) ?_
     exact by (
     refine dp_ 9 (fun _ => Run.extract rfl rfl rfl) ?_
     refine dp_ 10 (fun _ => Run.extract rfl rfl rfl) ?_
     exact useWD X35 ⟨b1126, b958, A1157, t1128, c1158, A1159, c1160, A1161, t1139, c1162, A1163, t1146, c1164, A1165, c1166, A1170, t1167, c1171, A1174, c1175, A1178, c1179, I1155, bl1156, I1153, bl1154, I1144, I1137, bl1138, I1135, rfl, H, le1172, le1176, le1180, (St.sel HS [9, 8, 0, 1, 2, 3, 4, 5, 6, 7, 10, 11, 12])⟩ )))))))))))))))))
end Go.Proofs.Ytlpginalgdbopaa.PFnExactAddCell
