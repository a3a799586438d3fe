/- Functions that the statement reaches, as Lean functions, and the proof that a call of each comes to just its answer; written by this claim's own program. No conditions. -/
import Derived.Test.YtlpginalgdbopaaGFnExactForkTable2
namespace Go.Proofs.Ytlpginalgdbopaa.PFnExactForkTable
open Try
open Go.RowKit Go.Proofs.YtlpginalgdbopaaW.PrintWords Go.Proofs.YtlpginalgdbopaaW.PrintLast Go.Proofs.YtlpginalgdbopaaW.PrintMore Go.Proofs.Ytlpginalgdbopaa.XW Go.Proofs.Ytlpginalgdbopaa.XOp Go.Proofs.Ytlpginalgdbopaa.XSt Go.Proofs.Ytlpginalgdbopaa.XDraw
set_option linter.unusedVariables false
set_option linter.unusedSimpArgs false
set_option maxHeartbeats 4000000
set_option maxRecDepth 20000
def laws_FnExactForkTable.g (k : Nat) (x0 : S84) (x1 : S85) : Option Bool := ((laws_szStore.g k (⟨x0.f0, x0.f1⟩ : S84) 1048576).bind fun t8 => (if t8 < 0 then (some true) else ((laws_szTable.g k (⟨x1.f0, x1.f1⟩ : S85) t8).bind fun t16 => (if t16 < 0 then (some true) else ((laws_toStore.g k (⟨x0.f0, x0.f1⟩ : S84)).bind fun t26 => ((laws_toTable.g k (⟨x1.f0, x1.f1⟩ : S85)).bind fun t37 => ((spec_ForkTable.g k t26 t37).bind fun t50 => ((laws_toStore.g k (⟨x0.f0, x0.f1⟩ : S84)).bind fun t617 => ((laws_toTable.g k (⟨x1.f0, x1.f1⟩ : S85)).bind fun t636 => ((impl_ForkTable.g k (⟨t617.f0, t617.f1⟩ : S58) (⟨t636.f0, t636.f1⟩ : S67)).bind fun t649 => ((laws_eqStore.g k (⟨t649.1.f0, t649.1.f1⟩ : S58) (⟨t50.1.f0, t50.1.f1⟩ : S58)).bind fun t678 => (if t678 = true then ((laws_eqTable.g k (⟨t649.2.1.f0, t649.2.1.f1⟩ : S67) (⟨t50.2.1.f0, t50.2.1.f1⟩ : S67)).bind fun t682 => (if t682 = true then (if t649.2.2 = t50.2.2 then ((laws_toStore.g k (⟨x0.f0, x0.f1⟩ : S84)).bind fun t690 => ((laws_eqStore.g k (⟨t617.f0, t617.f1⟩ : S58) t690).bind fun t705 => (if t705 = true then ((laws_toTable.g k (⟨x1.f0, x1.f1⟩ : S85)).bind fun t712 => ((laws_eqTable.g k (⟨t636.f0, t636.f1⟩ : S67) t712).bind fun t721 => (if t721 = true then (if (0 : Int) ≤ 1 ∧ 1 + ((n22 t617.f0) : Int) ≤ 4611686018427387904 then (if 0 ≤ (1 + ((n22 t617.f0) : Int)) ∧ (1 + ((n22 t617.f0) : Int)) + ((n56 t617.f1) : Int) ≤ 4611686018427387904 then (if 0 ≤ ((1 + ((n22 t617.f0) : Int)) + ((n56 t617.f1) : Int)) ∧ ((1 + ((n22 t617.f0) : Int)) + ((n56 t617.f1) : Int)) + ((n22 t636.f0) : Int) ≤ 4611686018427387904 then ((laws_eqStore.g k (⟨t649.1.f0, t649.1.f1⟩ : S58) (⟨t50.1.f0, t50.1.f1⟩ : S58)).bind fun t761 => (if t761 = true then ((laws_eqTable.g k (⟨t649.2.1.f0, t649.2.1.f1⟩ : S67) (⟨t50.2.1.f0, t50.2.1.f1⟩ : S67)).bind fun t765 => (if t765 = true then (if (0 : Int) ≤ 1 ∧ 1 + ((n22 t649.1.f0) : Int) ≤ 4611686018427387904 then (if 0 ≤ (1 + ((n22 t649.1.f0) : Int)) ∧ (1 + ((n22 t649.1.f0) : Int)) + ((n56 t649.1.f1) : Int) ≤ 4611686018427387904 then (if 0 ≤ ((1 + ((n22 t649.1.f0) : Int)) + ((n56 t649.1.f1) : Int)) ∧ ((1 + ((n22 t649.1.f0) : Int)) + ((n56 t649.1.f1) : Int)) + ((n22 t649.2.1.f0) : Int) ≤ 4611686018427387904 then ((laws_toStore.g k (⟨x0.f0, x0.f1⟩ : S84)).bind fun t840 => ((laws_toTable.g k (⟨x1.f0, x1.f1⟩ : S85)).bind fun t851 => ((impl_ForkTable.g k t840 t851).bind fun t864 => ((laws_eqStore.g k (⟨t864.1.f0, t864.1.f1⟩ : S58) (⟨t50.1.f0, t50.1.f1⟩ : S58)).bind fun t1438 => (if t1438 = true then ((laws_eqTable.g k (⟨t864.2.1.f0, t864.2.1.f1⟩ : S67) (⟨t50.2.1.f0, t50.2.1.f1⟩ : S67)).bind fun t1442 => (if t1442 = true then (if t864.2.2 = t50.2.2 then (some true) else (some false)) else (some false))) else (some false)))))) else none) else none) else none) else (some false))) else (some false))) else none) else none) else none) else (some false)))) else (some false)))) else (some false)) else (some false))) else (some false)))))))))))))
theorem laws_FnExactForkTable.runs (k : Nat) (x0 : S84) (A0_0 : Option Addr) (c0_0 : Nat) (A0_1 : Option Addr) (c0_1 : Nat) (x1 : S85) (A1_0 : Option Addr) (c1_0 : Nat) (r : Bool) (w : World) (hr0_0 : kI.C w A0_0 x0.f0.length x0.f0) (hc0_0 : x0.f0.length ≤ c0_0) (hr0_1 : kS98.C w A0_1 x0.f1.length x0.f1) (hc0_1 : x0.f1.length ≤ c0_1) (hr1_0 : kI.C w A1_0 x1.f0.length x1.f0) (hc1_0 : x1.f0.length ≤ c1_0) (H : laws_FnExactForkTable.g k x0 x1 = some r) :
   Calls prog 13 #[.agg #[.slice A0_0 x0.f0.length c0_0, .slice A0_1 x0.f1.length c0_1], .agg #[.slice A1_0 x1.f0.length c1_0, vi x1.f1]] w fun e w' => e = .returned (.bool r) ∧ Below w.heap.size w w' := by
 unfold laws_FnExactForkTable.g at H
 have HS : St (fun _ => True) w w [] [(cF kI A0_0 x0.f0), (cF kS98 A0_1 x0.f1), (cF kI A1_0 x1.f0)] [] := St.start (foot_cons (foot_C (Kd.heap_int _) hr0_0) (foot_cons (foot_C (Kd.heap_slice _ h98) hr0_1) (foot_cons (foot_C (Kd.heap_int _) hr1_0) foot_nil)))
 refine cw_ (n := 156) func13 fun R_ hR_ => ?_
 refine sr_ fun _ hK1 => ?_
 refine bo_ HS (fun b2 w3 hb2 HS => ?_)
 refine bo_ HS (fun b4 w5 hb4 HS => ?_)
 refine ad_ hK1 ?_
 clear hK1
 exact by (
 refine sr_ fun _ hK6 => ?_
 refine ad_ hK6 ?_
 clear hK6
 refine sr_ fun _ hK7 => ?_
 refine v_ (ls_ (HS.mu 1 rfl) underlying84 part_all) ?_
 refine mv_ ?_
 obtain ⟨t8, ha9, H⟩ := bind_some H
 refine cs_ HS func58 (laws_szStore.runs k (⟨x0.f0, x0.f1⟩ : S84) A0_0 c0_0 A0_1 c0_1 1048576 t8 _ (HS.getO 0 rfl) hc0_0 (HS.getO 1 rfl) hc0_1 ha9) (fun w10 HS => ?_)
 exact by (
 clear ha9
 refine ad_ hK7 ?_
 clear hK7
 refine WC.seq fun _ hK11 => ?_
 refine sr_ fun _ hK12 => ?_
 refine mv_ ?_
 refine b_ bin_lss ?_
 refine dn_ hK12 ?_
 exact by (
 clear hK12
 rcases ite_ H with ⟨c13, H⟩ | ⟨c13, H⟩
 · refine wy_ (dT c13) (sr_ fun _ hK14 => ?_)
   refine ad_ hK14 ?_
   clear hK14
   obtain rfl := os H
   exact rt1 Try.f13 rfl rfl hR_ ⟨rfl, HS.b⟩
 refine wn_ (dF c13) (WC.skip (via_ hK11 (sr_ fun _ hK15 => ?_)))
 exact by (
 clear hK11
 refine v_ (ls_ (HS.mu 0 rfl) underlying85 part_all) ?_
 refine mv_ ?_
 obtain ⟨t16, ha17, H⟩ := bind_some H
 refine cs_ HS func59 (laws_szTable.runs k (⟨x1.f0, x1.f1⟩ : S85) A1_0 c1_0 t8 t16 _ (HS.getO 2 rfl) hc1_0 ha17) (fun w18 HS => ?_)
 clear ha17
 refine ad_ hK15 ?_
 clear hK15
 exact by (
 refine WC.seq fun _ hK19 => ?_
 refine sr_ fun _ hK20 => ?_
 refine mv_ ?_
 refine b_ bin_lss ?_
 refine dn_ hK20 ?_
 clear hK20
 rcases ite_ H with ⟨c21, H⟩ | ⟨c21, H⟩
 · refine wy_ (dT c21) (sr_ fun _ hK22 => ?_)
   exact by (
   refine ad_ hK22 ?_
   clear hK22
   obtain rfl := os H
   exact rt1 Try.f13 rfl rfl hR_ ⟨rfl, HS.b⟩ )
 refine wn_ (dF c21) (WC.skip (via_ hK19 (WC.seq fun _ hK23 => ?_)))
 clear hK19
 refine WC.drawW HS [boxM b4 #[.slice A1_0 x1.f0.length c1_0, vi x1.f1] 85, boxM b2 #[.slice A0_0 x0.f0.length c0_0, .slice A0_1 x0.f1.length c0_1] 84] (fun _ HS => ⟨(HS.mu 0 rfl), (HS.mu 1 rfl), trivial⟩) [] rfl rfl (fun w24 HS => ?_)
 refine dt_ 0 ⟨HS.nowO, HS.nowN, ⟨(HS.mu 0 rfl), (HS.mu 1 rfl), trivial⟩⟩ (fun w_ hw_ => Run.loadS (cs := [.slice A0_0 x0.f0.length c0_0, .slice A0_1 x0.f1.length c0_1]) rfl rfl underlying84 rfl (by kernel_rfl) (box_part hw_.2.2.2.1 part_all)) ?_
 exact by (
 refine dt_ 2 ⟨HS.nowO, HS.nowN, ⟨(HS.mu 0 rfl), (HS.mu 1 rfl), trivial⟩⟩ (fun w_ hw_ => Run.loadS (cs := [.slice A1_0 x1.f0.length c1_0, vi x1.f1]) rfl rfl underlying85 rfl (by kernel_rfl) (box_part hw_.2.2.1 part_all)) ?_
 refine joinWD (fun E_ W_ => ∃ (b65 : Nat) (b67 : Nat) (A44 : Option Addr) (t26 : S58) (c45 : Nat) (A46 : Option Addr) (c47 : Nat) (A48 : Option Addr) (t37 : S67) (c49 : Nat) (A53 : Option Addr) (t50 : S58 × S67 × Bool) (c54 : Nat) (A57 : Option Addr) (c58 : Nat) (A61 : Option Addr) (c62 : Nat) (I42 : List Value) (I35 : List Value) (bl36 : List Nat) (I33 : List Value), E_ = [(0, .agg #[.slice A0_0 x0.f0.length c0_0, .slice A0_1 x0.f1.length c0_1]), (1, .agg #[.slice A1_0 x1.f0.length c1_0, vi x1.f1]), (2, .pointer (some ⟨b2, 0, none⟩)), (3, .pointer (some ⟨b4, 0, none⟩)), (4, .bool false), (5, vi t16), (6, .pointer (some ⟨b65, 0, none⟩)), (7, .pointer (some ⟨b67, 0, none⟩)), (20, .agg #[.slice A0_0 x0.f0.length c0_0, .slice A0_1 x0.f1.length c0_1]), (21, vi 1048576), (22, vi t8), (23, vi t8), (24, .bool (decide (t8 < 0))), (25, .agg #[.slice A1_0 x1.f0.length c1_0, vi x1.f1]), (26, vi t8), (27, vi t16), (28, vi t16), (29, .bool (decide (t16 < 0))), (31, .agg #[.slice A0_0 x0.f0.length c0_0, .slice A0_1 x0.f1.length c0_1]), (32, .agg #[(.slice A44 t26.f0.length c45), (.slice A46 t26.f1.length c47)]), (33, .agg #[.slice A1_0 x1.f0.length c1_0, vi x1.f1]), (34, .agg #[(.slice A48 t37.f0.length c49), vi t37.f1]), (36, .agg #[.slice A53 t50.1.f0.length c54, .slice A57 t50.1.f1.length c58]), (37, .agg #[.slice A61 t50.2.1.f0.length c62, vi t50.2.1.f1]), (38, .bool t50.2.2)] ∧ ((laws_toStore.g k (⟨x0.f0, x0.f1⟩ : S84)).bind fun t617 => ((laws_toTable.g k (⟨x1.f0, x1.f1⟩ : S85)).bind fun t636 => ((impl_ForkTable.g k (⟨t617.f0, t617.f1⟩ : S58) (⟨t636.f0, t636.f1⟩ : S67)).bind fun t649 => ((laws_eqStore.g k (⟨t649.1.f0, t649.1.f1⟩ : S58) (⟨t50.1.f0, t50.1.f1⟩ : S58)).bind fun t678 => (if t678 = true then ((laws_eqTable.g k (⟨t649.2.1.f0, t649.2.1.f1⟩ : S67) (⟨t50.2.1.f0, t50.2.1.f1⟩ : S67)).bind fun t682 => (if t682 = true then (if t649.2.2 = t50.2.2 then ((laws_toStore.g k (⟨x0.f0, x0.f1⟩ : S84)).bind fun t690 => ((laws_eqStore.g k (⟨t617.f0, t617.f1⟩ : S58) t690).bind fun t705 => (if t705 = true then ((laws_toTable.g k (⟨x1.f0, x1.f1⟩ : S85)).bind fun t712 => ((laws_eqTable.g k (⟨t636.f0, t636.f1⟩ : S67) t712).bind fun t721 => (if t721 = true then (if (0 : Int) ≤ 1 ∧ 1 + ((n22 t617.f0) : Int) ≤ 4611686018427387904 then (if 0 ≤ (1 + ((n22 t617.f0) : Int)) ∧ (1 + ((n22 t617.f0) : Int)) + ((n56 t617.f1) : Int) ≤ 4611686018427387904 then (if 0 ≤ ((1 + ((n22 t617.f0) : Int)) + ((n56 t617.f1) : Int)) ∧ ((1 + ((n22 t617.f0) : Int)) + ((n56 t617.f1) : Int)) + ((n22 t636.f0) : Int) ≤ 4611686018427387904 then ((laws_eqStore.g k (⟨t649.1.f0, t649.1.f1⟩ : S58) (⟨t50.1.f0, t50.1.f1⟩ : S58)).bind fun t761 => (if t761 = true then ((laws_eqTable.g k (⟨t649.2.1.f0, t649.2.1.f1⟩ : S67) (⟨t50.2.1.f0, t50.2.1.f1⟩ : S67)).bind fun t765 => (if t765 = true then (if (0 : Int) ≤ 1 ∧ 1 + ((n22 t649.1.f0) : Int) ≤ 4611686018427387904 then (if 0 ≤ (1 + ((n22 t649.1.f0) : Int)) ∧ (1 + ((n22 t649.1.f0) : Int)) + ((n56 t649.1.f1) : Int) ≤ 4611686018427387904 then (if 0 ≤ ((1 + ((n22 t649.1.f0) : Int)) + ((n56 t649.1.f1) : Int)) ∧ ((1 + ((n22 t649.1.f0) : Int)) + ((n56 t649.1.f1) : Int)) + ((n22 t649.2.1.f0) : Int) ≤ 4611686018427387904 then ((laws_toStore.g k (⟨x0.f0, x0.f1⟩ : S84)).bind fun t840 => ((laws_toTable.g k (⟨x1.f0, x1.f1⟩ : S85)).bind fun t851 => ((impl_ForkTable.g k t840 t851).bind fun t864 => ((laws_eqStore.g k (⟨t864.1.f0, t864.1.f1⟩ : S58) (⟨t50.1.f0, t50.1.f1⟩ : S58)).bind fun t1438 => (if t1438 = true then ((laws_eqTable.g k (⟨t864.2.1.f0, t864.2.1.f1⟩ : S67) (⟨t50.2.1.f0, t50.2.1.f1⟩ : S67)).bind fun t1442 => (if t1442 = true then (if t864.2.2 = t50.2.2 then (some true) else (some false)) else (some false))) else (some false)))))) else none) else none) else none) else (some false))) else (some false))) else none) else none) else none) else (some false)))) else (some false)))) else (some false)) else (some false))) else (some false)))))) = some r ∧ t50.1.f0.length ≤ c54 ∧ t50.1.f1.length ≤ c58 ∧ t50.2.1.f0.length ≤ c62 ∧ St (fun _ => True) w W_ [boxM b67 #[sn, vi 0] 67, boxM b65 #[sn, sn] 58, rowM w.heap.size 3 1 (.slice A48 t37.f0.length c49) t37.f0.length I42, rowM w.heap.size 71 1 (.slice A46 t26.f1.length c47) t26.f1.length I35, elsM (Dk.slice 62 dq62) t26.f1 I35 bl36, rowM w.heap.size 3 1 (.slice A44 t26.f0.length c45) t26.f0.length I33, boxM b4 #[.slice A1_0 x1.f0.length c1_0, vi x1.f1] 85, boxM b2 #[.slice A0_0 x0.f0.length c0_0, .slice A0_1 x0.f1.length c0_1] 84] [(cF kI A0_0 x0.f0), (cF kS98 A0_1 x0.f1), (cF kI A1_0 x1.f0)] [(cF kI A53 t50.1.f0), (cF kS62 A57 t50.1.f1), (cF kI A61 t50.2.1.f0), (rF kI t37.f0 I42), (rF kI t26.f0 I33)]) [1, 3, 4, 5, 6, 7, 8, 9, 10] 3 ?_ (fun X25 => ?_)
 · rintro E_ w613 ⟨b65, b67, A44, t26, c45, A46, c47, A48, t37, c49, A53, t50, c54, A57, c58, A61, c62, I42, I35, bl36, I33, rfl, H, le55, le59, le63, HS⟩
   refine WD.storeS 11 HS 1 rfl rfl rfl rfl (oneL rfl) (by kernel_rfl) (ble_ rfl) (cs' := #[.slice A53 t50.1.f0.length c54, .slice A57 t50.1.f1.length c58]) (by kernel_rfl) (fun w614 HS => ?_)
   dsimp only [List.set] at HS
   refine ⟨⟨HS.nowO, HS.nowN.2.2.2.2.2, ⟨(HS.mu 6 rfl), (HS.mu 7 rfl), trivial⟩⟩, ?_⟩
   refine WD.storeS 12 HS 0 rfl rfl rfl rfl (oneL rfl) (by kernel_rfl) (ble_ rfl) (cs' := #[.slice A61 t50.2.1.f0.length c62, vi t50.2.1.f1]) (by kernel_rfl) (fun w615 HS => ?_)
   dsimp only [List.set] at HS
   exact by (
   refine ⟨⟨HS.nowO, HS.nowN.2.2.2.2.2, ⟨(HS.mu 6 rfl), (HS.mu 7 rfl), trivial⟩⟩, ?_⟩
   refine dp_ 13 (fun _ => Run.assign rfl rfl) ?_
   refine dd_ (via_ hK23 (sr_ fun _ hK616 => ?_))
   clear hK23
   refine v_ (ls_ (HS.mu 7 rfl) underlying84 part_all) ?_
   obtain ⟨t617, ha618, H⟩ := bind_some H
   refine c_ func60 (laws_toStore.runs k (⟨x0.f0, x0.f1⟩ : S84) A0_0 c0_0 A0_1 c0_1 t617 _ (HS.getO 0 rfl) hc0_0 (HS.getO 1 rfl) hc0_1 ha618) ?_
   clear ha618
   exact by (
   rintro _ w619 ⟨v620, bl621, v622, bl623, rfl, hO_, hb⟩
   replace HS := HS.got hb hO_
   dsimp only [List.cons_append, List.nil_append] at HS
   clear hO_
   obtain ⟨I624, bl625, HS⟩ := HS.unseal (sz := 1) rfl
   replace HS := HS.freezeN 1 (p := (rF kI t617.f0 I624)) rfl (fun _ hP_ _ => RepsB.reps hP_)
   dsimp only [List.eraseIdx] at HS
   replace HS := HS.front 1 rfl
   exact by (
   dsimp only [List.eraseIdx] at HS
   obtain ⟨I626, bl627, HS⟩ := HS.unseal (sz := 1) rfl
   refine ⟨_, rfl, ?_⟩
   clear hb
   refine WL.alloc HS (v := .agg #[sn, sn]) (cs := #[sn, sn]) rfl rfl (by decide) rfl (by kernel_rfl) rfl (fun b628 w629 hb628 HS => ?_)
   obtain ⟨A631, c632, rfl⟩ := row_slice (HS.mu 3 rfl)
   obtain ⟨A633, c634, rfl⟩ := row_slice (HS.mu 1 rfl)
   refine WL.storeW HS 0 rfl rfl rfl rfl rfl rfl (oneL rfl) (by kernel_rfl) rfl (fun w630 HS => ?_)
   exact by (
   dsimp only [List.set] at HS
   refine dn_ hK616 (sr_ fun _ hK635 => ?_)
   clear hK616
   refine v_ (ls_ (HS.mu 10 rfl) underlying85 part_all) ?_
   obtain ⟨t636, ha637, H⟩ := bind_some H
   refine c_ func61 (laws_toTable.runs k (⟨x1.f0, x1.f1⟩ : S85) A1_0 c1_0 t636 _ (HS.getO 2 rfl) hc1_0 ha637) ?_
   clear ha637
   rintro _ w638 ⟨v639, bl640, rfl, hO_, hb⟩
   exact by (
   replace HS := HS.got hb hO_
   dsimp only [List.cons_append, List.nil_append] at HS
   clear hO_
   obtain ⟨I641, bl642, HS⟩ := HS.unseal (sz := 1) rfl
   replace HS := HS.freezeN 1 (p := (rF kI t636.f0 I641)) rfl (fun _ hP_ _ => RepsB.reps hP_)
   dsimp only [List.eraseIdx] at HS
   refine ⟨_, rfl, ?_⟩
   clear hb
   exact by (
   refine WL.alloc HS (v := .agg #[sn, vi 0]) (cs := #[sn, vi 0]) rfl rfl (by decide) rfl (by kernel_rfl) rfl (fun b643 w644 hb643 HS => ?_)
   obtain ⟨A646, c647, rfl⟩ := row_slice (HS.mu 1 rfl)
   refine WL.storeW HS 0 rfl rfl rfl rfl rfl rfl (oneL rfl) (by kernel_rfl) rfl (fun w645 HS => ?_)
   dsimp only [List.set] at HS
   refine dn_ hK635 (sr_ fun _ hK648 => ?_)
   clear hK635
   refine v_ (ls_ (HS.mu 2 rfl) underlying58 part_all) ?_
   refine v_ (ls_ (HS.mu 0 rfl) underlying67 part_all) ?_
   exact by (
   obtain ⟨t649, ha650, H⟩ := bind_some H
   refine c_ func54 (impl_ForkTable.runs k (⟨t617.f0, t617.f1⟩ : S58) A631 c632 A633 c634 (⟨t636.f0, t636.f1⟩ : S67) A646 c647 t649.1 t649.2.1 t649.2.2 _ (row_C rfl (HS.mu 5 rfl) (HS.getN 1 rfl)) (row_le (HS.mu 5 rfl)) (row_C rfl (HS.mu 3 rfl) (HS.elsK 4 rfl)) (row_le (HS.mu 3 rfl)) (row_C rfl (HS.mu 1 rfl) (HS.getN 0 rfl)) (row_le (HS.mu 1 rfl)) ha650) ?_
   clear ha650
   rintro _ w651 ⟨v652, bl653, v654, bl655, v656, bl657, rfl, hO_, hb⟩
   replace HS := HS.got hb hO_
   dsimp only [List.cons_append, List.nil_append] at HS
   clear hO_
   obtain ⟨I658, bl659, HS⟩ := HS.unseal (sz := 1) rfl
   exact by (
   replace HS := HS.freezeN 1 (p := (rF kI t649.1.f0 I658)) rfl (fun _ hP_ _ => RepsB.reps hP_)
   dsimp only [List.eraseIdx] at HS
   replace HS := HS.front 1 rfl
   dsimp only [List.eraseIdx] at HS
   obtain ⟨I660, bl661, HS⟩ := HS.unseal (sz := 1) rfl
   replace HS := HS.front 3 rfl
   dsimp only [List.eraseIdx] at HS
   obtain ⟨I662, bl663, HS⟩ := HS.unseal (sz := 1) rfl
   exact by (
   replace HS := HS.freezeN 1 (p := (rF kI t649.2.1.f0 I662)) rfl (fun _ hP_ _ => RepsB.reps hP_)
   dsimp only [List.eraseIdx] at HS
   refine ⟨_, rfl, ?_⟩
   clear hb
   refine mv_ ?_
   refine v_ (Run.extract rfl rfl rfl) ?_
   refine v_ (Run.extract rfl rfl rfl) ?_
   refine v_ (Run.extract rfl rfl rfl) ?_
   exact by (
   refine WL.alloc HS (v := .agg #[sn, sn]) (cs := #[sn, sn]) rfl rfl (by decide) rfl (by kernel_rfl) rfl (fun b664 w665 hb664 HS => ?_)
   refine WL.alloc HS (v := .agg #[sn, vi 0]) (cs := #[sn, vi 0]) rfl rfl (by decide) rfl (by kernel_rfl) rfl (fun b666 w667 hb666 HS => ?_)
   obtain ⟨A669, c670, rfl⟩ := row_slice (HS.mu 5 rfl)
   obtain ⟨A671, c672, rfl⟩ := row_slice (HS.mu 3 rfl)
   refine WL.storeW HS 1 rfl rfl rfl rfl rfl rfl (oneL rfl) (by kernel_rfl) rfl (fun w668 HS => ?_)
   dsimp only [List.set] at HS
   obtain ⟨A674, c675, rfl⟩ := row_slice (HS.mu 2 rfl)
   refine WL.storeW HS 0 rfl rfl rfl rfl rfl rfl (oneL rfl) (by kernel_rfl) rfl (fun w673 HS => ?_)
   exact by (
   dsimp only [List.set] at HS
   refine ad_ hK648 ?_
   clear hK648
   refine WC.seq fun _ hK676 => ?_
   refine sr_ fun _ hK677 => ?_
   refine v_ (ls_ (HS.mu 1 rfl) underlying58 part_all) ?_
   refine v_ (ls_ (HS.mu 13 rfl) underlying58 part_all) ?_
   obtain ⟨t678, ha679, H⟩ := bind_some H
   exact by (
   refine cs_ HS func63 (laws_eqStore.runs k (⟨t649.1.f0, t649.1.f1⟩ : S58) A669 c670 A671 c672 (⟨t50.1.f0, t50.1.f1⟩ : S58) A53 c54 A57 c58 t678 _ (row_C rfl (HS.mu 5 rfl) (HS.getN 1 rfl)) (row_le (HS.mu 5 rfl)) (row_C rfl (HS.mu 3 rfl) (HS.elsK 4 rfl)) (row_le (HS.mu 3 rfl)) (HS.getN 4 rfl) le55 (HS.getN 5 rfl) le59 ha679) (fun w680 HS => ?_)
   clear ha679
   refine nt_ ?_
   refine mv_ ?_
   rcases eti_ H with ⟨c681, H⟩ | ⟨c681, H⟩
   · refine off_ (c' := true) (nB (bF c681)) ?_
     refine WL.know 54 (nB (bF c681)) ?_
     refine fast_ ?_
     exact by (
     refine via_ hK677 (wy_ rfl ?_)
     clear hK677
     refine sr_ fun _ hK1491 => ?_
     refine ad_ hK1491 ?_
     clear hK1491
     obtain rfl := os H
     exact rt1 Try.f13 rfl rfl hR_ ⟨rfl, HS.b⟩ )
   refine on_ (nB c681) (v_ (ls_ (HS.mu 0 rfl) underlying67 part_all) ?_)
   exact by (
   refine on_ (nB c681) (v_ (ls_ (HS.mu 12 rfl) underlying67 part_all) ?_)
   refine on_ (nB c681) ?_
   obtain ⟨t682, ha683, H⟩ := bind_some H
   refine cs_ HS func64 (laws_eqTable.runs k (⟨t649.2.1.f0, t649.2.1.f1⟩ : S67) A674 c675 (⟨t50.2.1.f0, t50.2.1.f1⟩ : S67) A61 c62 t682 _ (row_C rfl (HS.mu 2 rfl) (HS.getN 0 rfl)) (row_le (HS.mu 2 rfl)) (HS.getN 6 rfl) le63 ha683) (fun w684 HS => ?_)
   clear ha683
   refine on_ (nB c681) (nt_ ?_)
   refine v_ (Run.pickF rfl rfl (nB c681) rfl) ?_
   refine mv_ ?_
   exact by (
   rcases eti_ H with ⟨c685, H⟩ | ⟨c685, H⟩
   · refine off_ (c' := true) (nB (bF c685)) ?_
     refine WL.know 60 (nB (bF c685)) ?_
     refine fast_ ?_
     refine via_ hK677 (wy_ rfl ?_)
     clear hK677
     refine sr_ fun _ hK1490 => ?_
     refine ad_ hK1490 ?_
     exact by (
     clear hK1490
     obtain rfl := os H
     exact rt1 Try.f13 rfl rfl hR_ ⟨rfl, HS.b⟩ )
   refine on_ (nB c685) (mv_ ?_)
   refine on_ (nB c685) (mv_ ?_)
   refine on_ (nB c685) (v_ (Run.binB rfl rfl rfl (bin_neqB underlying4)) ?_)
   refine v_ (Run.pickF rfl rfl (nB c685) rfl) ?_
   refine dn_ hK677 ?_
   exact by (
   clear hK677
   rcases eti_ H with ⟨c686, H⟩ | ⟨c686, H⟩
   · refine wy_ (qT c686) (sr_ fun _ hK1489 => ?_)
     refine ad_ hK1489 ?_
     clear hK1489
     obtain rfl := os H
     exact rt1 Try.f13 rfl rfl hR_ ⟨rfl, HS.b⟩
   refine wn_ (qF c686) (WC.skip (via_ hK676 (WC.seq fun _ hK687 => ?_)))
   exact by (
   clear hK676
   refine WC.seq fun _ hK688 => ?_
   refine WC.drawS HS [] rfl rfl (fun w689 HS => ?_)
   have HB := Below.refl w689.heap.size w689
   have HSW := HS
   refine dt_ 0 (Below.refl _ _) (fun w_ hw_ => Run.loadS (cs := [(.slice A631 t617.f0.length c632), (.slice A633 t617.f1.length c634)]) rfl rfl underlying58 rfl (by kernel_rfl) (box_part ((HS.below hw_).mu 8 rfl) part_all)) ?_
   refine dt_ 1 (Below.refl _ _) (fun w_ hw_ => Run.loadS (cs := [.slice A0_0 x0.f0.length c0_0, .slice A0_1 x0.f1.length c0_1]) rfl rfl underlying84 rfl (by kernel_rfl) (box_part ((HS.below hw_).mu 19 rfl) part_all)) ?_
   obtain ⟨t690, ha691, H⟩ := bind_some H
   exact by (
   refine dc_ 2 (w_none rfl) func60 (laws_toStore.runs k (⟨x0.f0, x0.f1⟩ : S84) A0_0 c0_0 A0_1 c0_1 t690 _ (HS.getO 0 rfl) hc0_0 (HS.getO 1 rfl) hc0_1 ha691) ?_
   clear ha691
   rintro _ w692 ⟨v693, bl694, v695, bl696, rfl, hO_, hb⟩
   replace HB := HB.trans (hb.mono HB.size)
   replace HS := HS.got hb hO_
   dsimp only [List.cons_append, List.nil_append] at HS
   clear hO_
   obtain ⟨I697, bl698, HS⟩ := HS.unseal (sz := 1) rfl
   exact by (
   replace HS := HS.freezeN 1 (p := (rF kI t690.f0 I697)) rfl (fun _ hP_ _ => RepsB.reps hP_)
   dsimp only [List.eraseIdx] at HS
   replace HS := HS.front 1 rfl
   dsimp only [List.eraseIdx] at HS
   obtain ⟨I699, bl700, HS⟩ := HS.unseal (sz := 1) rfl
   refine ⟨HB, _, rfl, ?_⟩
   clear hb
   obtain ⟨A701, c702, rfl⟩ := row_slice (HS.mu 2 rfl)
   exact by (
   obtain ⟨A703, c704, rfl⟩ := row_slice (HS.mu 0 rfl)
   obtain ⟨t705, ha706, H⟩ := bind_some H
   refine dcs_ HS HB 3 (w_none rfl) func63 (laws_eqStore.runs k (⟨t617.f0, t617.f1⟩ : S58) A631 c632 A633 c634 t690 A701 c702 A703 c704 t705 _ (row_C rfl (HS.mu 14 rfl) (HS.getN 4 rfl)) (row_le (HS.mu 14 rfl)) (row_C rfl (HS.mu 12 rfl) (HS.elsK 13 rfl)) (row_le (HS.mu 12 rfl)) (row_C rfl (HS.mu 2 rfl) (HS.getN 0 rfl)) (row_le (HS.mu 2 rfl)) (row_C rfl (HS.mu 0 rfl) (HS.elsK 1 rfl)) (row_le (HS.mu 0 rfl)) ha706) (fun w707 HS HB => ?_)
   clear ha706
   refine dp_ 4 (fun _ => Run.not rfl rfl) ?_
   refine dd_ ?_
   clear HB HSW
   refine via_ hK688 ?_
   exact by (
   clear hK688
   rcases eti_ H with ⟨c708, H⟩ | ⟨c708, H⟩
   · refine wy_ (nB (bF c708)) (sr_ fun _ hK1488 => ?_)
     refine ad_ hK1488 ?_
     clear hK1488
     obtain rfl := os H
     exact rt1 Try.f13 rfl rfl hR_ ⟨rfl, HS.b⟩
   refine wn_ (nB c708) (WC.skip (via_ hK687 (WC.seq fun _ hK709 => ?_)))
   exact by (
   clear hK687
   refine WC.seq fun _ hK710 => ?_
   refine WC.drawS HS [] rfl rfl (fun w711 HS => ?_)
   have HB := Below.refl w711.heap.size w711
   have HSW := HS
   refine dt_ 0 (Below.refl _ _) (fun w_ hw_ => Run.loadS (cs := [(.slice A646 t636.f0.length c647), vi t636.f1]) rfl rfl underlying67 rfl (by kernel_rfl) (box_part ((HS.below hw_).mu 9 rfl) part_all)) ?_
   refine dt_ 1 (Below.refl _ _) (fun w_ hw_ => Run.loadS (cs := [.slice A1_0 x1.f0.length c1_0, vi x1.f1]) rfl rfl underlying85 rfl (by kernel_rfl) (box_part ((HS.below hw_).mu 21 rfl) part_all)) ?_
   obtain ⟨t712, ha713, H⟩ := bind_some H
   exact by (
   refine dc_ 2 (w_none rfl) func61 (laws_toTable.runs k (⟨x1.f0, x1.f1⟩ : S85) A1_0 c1_0 t712 _ (HS.getO 2 rfl) hc1_0 ha713) ?_
   clear ha713
   rintro _ w714 ⟨v715, bl716, rfl, hO_, hb⟩
   replace HB := HB.trans (hb.mono HB.size)
   replace HS := HS.got hb hO_
   dsimp only [List.cons_append, List.nil_append] at HS
   clear hO_
   obtain ⟨I717, bl718, HS⟩ := HS.unseal (sz := 1) rfl
   exact by (
   replace HS := HS.freezeN 1 (p := (rF kI t712.f0 I717)) rfl (fun _ hP_ _ => RepsB.reps hP_)
   dsimp only [List.eraseIdx] at HS
   refine ⟨HB, _, rfl, ?_⟩
   clear hb
   obtain ⟨A719, c720, rfl⟩ := row_slice (HS.mu 0 rfl)
   obtain ⟨t721, ha722, H⟩ := bind_some H
   refine dcs_ HS HB 3 (w_none rfl) func64 (laws_eqTable.runs k (⟨t636.f0, t636.f1⟩ : S67) A646 c647 t712 A719 c720 t721 _ (row_C rfl (HS.mu 11 rfl) (HS.getN 4 rfl)) (row_le (HS.mu 11 rfl)) (row_C rfl (HS.mu 0 rfl) (HS.getN 0 rfl)) (row_le (HS.mu 0 rfl)) ha722) (fun w723 HS HB => ?_)
   clear ha722
   exact by (
   refine dp_ 4 (fun _ => Run.not rfl rfl) ?_
   refine dd_ ?_
   clear HB HSW
   refine via_ hK710 ?_
   clear hK710
   rcases eti_ H with ⟨c724, H⟩ | ⟨c724, H⟩
   · refine wy_ (nB (bF c724)) (sr_ fun _ hK1487 => ?_)
     refine ad_ hK1487 ?_
     exact by (
     clear hK1487
     obtain rfl := os H
     exact rt1 Try.f13 rfl rfl hR_ ⟨rfl, HS.b⟩ )
   refine wn_ (nB c724) (WC.skip (via_ hK709 (sr_ fun _ hK725 => ?_)))
   clear hK709
   refine ad_ hK725 ?_
   clear hK725
   refine sr_ fun _ hK726 => ?_
   exact by (
   refine v_ (ls_ (HS.mu 12 rfl) underlying58 part_all) ?_
   refine mv_ ?_
   refine ci_ (args := [.agg #[(.slice A631 t617.f0.length c632), (.slice A633 t617.f1.length c634)], vi 1]) func65 ?_
   refine cw_ (n := 14) func65 fun _ hR727 => ?_
   refine sr_ fun _ hK728 => ?_
   refine bo_ HS (fun b729 w730 hb729 HS => ?_)
   refine ad_ hK728 ?_
   clear hK728
   exact by (
   refine sr_ fun _ hK731 => ?_
   refine v_ (fa_ underlying58) ?_
   refine v_ (lb_ (HS.mu 0 rfl) underlying22 rfl) ?_
   refine mv_ ?_
   replace HS := HS.elsF (xs := t617.f0) (inner := I624) (Dk.int .i64) (fun _ _ _ h_ => ⟨h_, rfl⟩) (fun _ => (HS.getN 5 rfl))
   replace HS := HS.front 17 rfl
   dsimp only [List.eraseIdx] at HS
   replace HS := HS.seal rfl rfl
   exact by (
   obtain ⟨Lv732, hL733, HS⟩ := HS.pre2 lf3
   obtain ⟨⟨q734, q735⟩, H⟩ := if_some H
   refine c_ func20 (laws_markIntS.leaf A631 t617.f0.length c632 1 Lv732 _ (HS.preK 0 rfl) q734 (by rw [hL733]; exact q735) (1 + ((n22 t617.f0) : Int)) (by rw [hL733]; rfl)) ?_
   rintro _ w736 ⟨rfl, hm_⟩
   replace HS := HS.marked 0 rfl hm_
   dsimp only [List.set] at HS
   refine ⟨_, rfl, ?_⟩
   clear hm_
   exact by (
   have hn737 : ¬ (1 + ((n22 t617.f0) : Int)) < 0 := by omega
   refine ad_ hK731 ?_
   clear hK731
   refine sr_ fun _ hK738 => ?_
   refine v_ (fa_ underlying58) ?_
   refine v_ (lb_ (HS.mu 1 rfl) underlying56 rfl) ?_
   refine mv_ ?_
   replace HS := HS.front 16 rfl
   exact by (
   dsimp only [List.eraseIdx] at HS
   replace HS := HS.front 16 rfl
   dsimp only [List.eraseIdx] at HS
   replace HS := HS.seal rfl rfl
   obtain ⟨Lv739, hL740, HS⟩ := HS.pre2 lf71
   obtain ⟨⟨q741, q742⟩, H⟩ := if_some H
   refine c_ func128 (laws_markCellSS.leaf A633 t617.f1.length c634 (1 + ((n22 t617.f0) : Int)) Lv739 _ (HS.preK 0 rfl) q741 (by rw [hL740]; exact q742) ((1 + ((n22 t617.f0) : Int)) + ((n56 t617.f1) : Int)) (by rw [hL740]; rfl)) ?_
   rintro _ w743 ⟨rfl, hm_⟩
   exact by (
   replace HS := HS.marked 0 rfl hm_
   dsimp only [List.set] at HS
   refine ⟨_, rfl, ?_⟩
   clear hm_
   have hn744 : ¬ ((1 + ((n22 t617.f0) : Int)) + ((n56 t617.f1) : Int)) < 0 := by omega
   refine ad_ hK738 ?_
   clear hK738
   refine sr_ fun _ hK745 => ?_
   exact by (
   refine mv_ ?_
   refine ad_ hK745 ?_
   clear hK745
   refine WC.ret ?_
   refine fin1 Try.f65 rfl rfl hR727 ⟨_, rfl, ?_⟩
   refine ad_ hK726 ?_
   clear hK726
   refine sr_ fun _ hK746 => ?_
   exact by (
   refine v_ (ls_ (HS.mu 13 rfl) underlying67 part_all) ?_
   refine mv_ ?_
   refine ci_ (args := [.agg #[(.slice A646 t636.f0.length c647), vi t636.f1], vi ((1 + ((n22 t617.f0) : Int)) + ((n56 t617.f1) : Int))]) func66 ?_
   refine cw_ (n := 10) func66 fun _ hR747 => ?_
   refine sr_ fun _ hK748 => ?_
   refine bo_ HS (fun b749 w750 hb749 HS => ?_)
   refine ad_ hK748 ?_
   clear hK748
   exact by (
   refine sr_ fun _ hK751 => ?_
   refine v_ (fa_ underlying67) ?_
   refine v_ (lb_ (HS.mu 0 rfl) underlying22 rfl) ?_
   refine mv_ ?_
   replace HS := HS.elsF (xs := t636.f0) (inner := I641) (Dk.int .i64) (fun _ _ _ h_ => ⟨h_, rfl⟩) (fun _ => (HS.getN 4 rfl))
   replace HS := HS.front 16 rfl
   dsimp only [List.eraseIdx] at HS
   replace HS := HS.seal rfl rfl
   exact by (
   obtain ⟨Lv752, hL753, HS⟩ := HS.pre2 lf3
   obtain ⟨⟨q754, q755⟩, H⟩ := if_some H
   refine c_ func20 (laws_markIntS.leaf A646 t636.f0.length c647 ((1 + ((n22 t617.f0) : Int)) + ((n56 t617.f1) : Int)) Lv752 _ (HS.preK 0 rfl) q754 (by rw [hL753]; exact q755) (((1 + ((n22 t617.f0) : Int)) + ((n56 t617.f1) : Int)) + ((n22 t636.f0) : Int)) (by rw [hL753]; rfl)) ?_
   rintro _ w756 ⟨rfl, hm_⟩
   replace HS := HS.marked 0 rfl hm_
   dsimp only [List.set] at HS
   refine ⟨_, rfl, ?_⟩
   clear hm_
   exact by (
   have hn757 : ¬ (((1 + ((n22 t617.f0) : Int)) + ((n56 t617.f1) : Int)) + ((n22 t636.f0) : Int)) < 0 := by omega
   refine ad_ hK751 ?_
   clear hK751
   refine sr_ fun _ hK758 => ?_
   refine mv_ ?_
   refine ad_ hK758 ?_
   clear hK758
   refine WC.ret ?_
   exact by (
   refine fin1 Try.f66 rfl rfl hR747 ⟨_, rfl, ?_⟩
   refine ad_ hK746 ?_
   clear hK746
   refine WC.seq fun _ hK759 => ?_
   refine sr_ fun _ hK760 => ?_
   refine mv_ ?_
   refine b_ bin_lss ?_
   refine mv_ ?_
   exact by (
   refine on_ (dF hn757) (v_ (ls_ (HS.mu 10 rfl) underlying58 part_all) ?_)
   refine on_ (dF hn757) (v_ (ls_ (HS.mu 18 rfl) underlying58 part_all) ?_)
   refine on_ (dF hn757) ?_
   obtain ⟨t761, ha762, H⟩ := bind_some H
   refine cs_ HS func63 (laws_eqStore.runs k (⟨t649.1.f0, t649.1.f1⟩ : S58) A669 c670 A671 c672 (⟨t50.1.f0, t50.1.f1⟩ : S58) A53 c54 A57 c58 t761 _ (row_C rfl (HS.mu 14 rfl) (HS.getN 3 rfl)) (row_le (HS.mu 14 rfl)) (row_C rfl (HS.mu 12 rfl) (HS.elsK 13 rfl)) (row_le (HS.mu 12 rfl)) (HS.getN 6 rfl) le55 (HS.getN 7 rfl) le59 ha762) (fun w763 HS => ?_)
   clear ha762
   refine on_ (dF hn757) (nt_ ?_)
   refine v_ (Run.pickF rfl rfl (dF hn757) rfl) ?_
   exact by (
   refine mv_ ?_
   rcases eti_ H with ⟨c764, H⟩ | ⟨c764, H⟩
   · refine off_ (c' := true) (nB (bF c764)) ?_
     refine WL.know 89 (nB (bF c764)) ?_
     refine fast_ ?_
     refine via_ hK760 (wy_ rfl ?_)
     clear hK760
     refine sr_ fun _ hK1486 => ?_
     exact by (
     refine ad_ hK1486 ?_
     clear hK1486
     obtain rfl := os H
     exact rt1 Try.f13 rfl rfl hR_ ⟨rfl, HS.b⟩ )
   refine on_ (nB c764) (v_ (ls_ (HS.mu 9 rfl) underlying67 part_all) ?_)
   refine on_ (nB c764) (v_ (ls_ (HS.mu 17 rfl) underlying67 part_all) ?_)
   refine on_ (nB c764) ?_
   obtain ⟨t765, ha766, H⟩ := bind_some H
   exact by (
   refine cs_ HS func64 (laws_eqTable.runs k (⟨t649.2.1.f0, t649.2.1.f1⟩ : S67) A674 c675 (⟨t50.2.1.f0, t50.2.1.f1⟩ : S67) A61 c62 t765 _ (row_C rfl (HS.mu 11 rfl) (HS.getN 2 rfl)) (row_le (HS.mu 11 rfl)) (HS.getN 8 rfl) le63 ha766) (fun w767 HS => ?_)
   clear ha766
   refine on_ (nB c764) (nt_ ?_)
   refine v_ (Run.pickF rfl rfl (nB c764) rfl) ?_
   refine mv_ ?_
   rcases eti_ H with ⟨c768, H⟩ | ⟨c768, H⟩
   · refine off_ (c' := true) (nB (bF c768)) ?_
     refine WL.know 95 (nB (bF c768)) ?_
     exact by (
     refine fast_ ?_
     refine via_ hK760 (wy_ rfl ?_)
     clear hK760
     refine sr_ fun _ hK1485 => ?_
     refine ad_ hK1485 ?_
     clear hK1485
     obtain rfl := os H
     exact rt1 Try.f13 rfl rfl hR_ ⟨rfl, HS.b⟩ )
   exact by (
   refine on_ (nB c768) (mv_ ?_)
   refine on_ (nB c768) (mv_ ?_)
   refine on_ (nB c768) (v_ (Run.binB rfl rfl rfl (bin_neqB underlying4)) ?_)
   refine v_ (Run.pickF rfl rfl (nB c768) rfl) ?_
   refine dn_ hK760 (wn_ (qF c686) (WC.skip (via_ hK759 (sr_ fun _ hK769 => ?_))))
   clear hK760 hK759
   refine ad_ hK769 ?_
   clear hK769
   exact by (
   refine sr_ fun _ hK770 => ?_
   refine v_ (ls_ (HS.mu 10 rfl) underlying58 part_all) ?_
   refine mv_ ?_
   refine ci_ (args := [.agg #[(.slice A669 t649.1.f0.length c670), (.slice A671 t649.1.f1.length c672)], vi 1]) func65 ?_
   refine cw_ (n := 14) func65 fun _ hR771 => ?_
   refine sr_ fun _ hK772 => ?_
   refine bo_ HS (fun b773 w774 hb773 HS => ?_)
   refine ad_ hK772 ?_
   exact by (
   clear hK772
   refine sr_ fun _ hK775 => ?_
   refine v_ (fa_ underlying58) ?_
   refine v_ (lb_ (HS.mu 0 rfl) underlying22 rfl) ?_
   refine mv_ ?_
   replace HS := HS.elsF (xs := t649.1.f0) (inner := I658) (Dk.int .i64) (fun _ _ _ h_ => ⟨h_, rfl⟩) (fun _ => (HS.getN 3 rfl))
   replace HS := HS.front 16 rfl
   dsimp only [List.eraseIdx] at HS
   exact by (
   replace HS := HS.seal rfl rfl
   obtain ⟨Lv776, hL777, HS⟩ := HS.pre2 lf3
   obtain ⟨⟨q778, q779⟩, H⟩ := if_some H
   refine c_ func20 (laws_markIntS.leaf A669 t649.1.f0.length c670 1 Lv776 _ (HS.preK 0 rfl) q778 (by rw [hL777]; exact q779) (1 + ((n22 t649.1.f0) : Int)) (by rw [hL777]; rfl)) ?_
   rintro _ w780 ⟨rfl, hm_⟩
   replace HS := HS.marked 0 rfl hm_
   dsimp only [List.set] at HS
   refine ⟨_, rfl, ?_⟩
   exact by (
   clear hm_
   have hn781 : ¬ (1 + ((n22 t649.1.f0) : Int)) < 0 := by omega
   refine ad_ hK775 ?_
   clear hK775
   refine sr_ fun _ hK782 => ?_
   refine v_ (fa_ underlying58) ?_
   refine v_ (lb_ (HS.mu 1 rfl) underlying56 rfl) ?_
   refine mv_ ?_
   exact by (
   replace HS := HS.front 15 rfl
   dsimp only [List.eraseIdx] at HS
   replace HS := HS.front 15 rfl
   dsimp only [List.eraseIdx] at HS
   replace HS := HS.seal rfl rfl
   obtain ⟨Lv783, hL784, HS⟩ := HS.pre2 lf71
   obtain ⟨⟨q785, q786⟩, H⟩ := if_some H
   refine c_ func128 (laws_markCellSS.leaf A671 t649.1.f1.length c672 (1 + ((n22 t649.1.f0) : Int)) Lv783 _ (HS.preK 0 rfl) q785 (by rw [hL784]; exact q786) ((1 + ((n22 t649.1.f0) : Int)) + ((n56 t649.1.f1) : Int)) (by rw [hL784]; rfl)) ?_
   exact by (
   rintro _ w787 ⟨rfl, hm_⟩
   replace HS := HS.marked 0 rfl hm_
   dsimp only [List.set] at HS
   refine ⟨_, rfl, ?_⟩
   clear hm_
   have hn788 : ¬ ((1 + ((n22 t649.1.f0) : Int)) + ((n56 t649.1.f1) : Int)) < 0 := by omega
   refine ad_ hK782 ?_
   clear hK782
   exact by (
   refine sr_ fun _ hK789 => ?_
   refine mv_ ?_
   refine ad_ hK789 ?_
   clear hK789
   refine WC.ret ?_
   refine fin1 Try.f65 rfl rfl hR771 ⟨_, rfl, ?_⟩
   refine ad_ hK770 ?_
   clear hK770
   exact by (
   refine sr_ fun _ hK790 => ?_
   refine v_ (ls_ (HS.mu 12 rfl) underlying67 part_all) ?_
   refine mv_ ?_
   refine ci_ (args := [.agg #[(.slice A674 t649.2.1.f0.length c675), vi t649.2.1.f1], vi ((1 + ((n22 t649.1.f0) : Int)) + ((n56 t649.1.f1) : Int))]) func66 ?_
   refine cw_ (n := 10) func66 fun _ hR791 => ?_
   refine sr_ fun _ hK792 => ?_
   refine bo_ HS (fun b793 w794 hb793 HS => ?_)
   refine ad_ hK792 ?_
   exact by (
   clear hK792
   refine sr_ fun _ hK795 => ?_
   refine v_ (fa_ underlying67) ?_
   refine v_ (lb_ (HS.mu 0 rfl) underlying22 rfl) ?_
   refine mv_ ?_
   replace HS := HS.elsF (xs := t649.2.1.f0) (inner := I662) (Dk.int .i64) (fun _ _ _ h_ => ⟨h_, rfl⟩) (fun _ => (HS.getN 2 rfl))
   replace HS := HS.front 16 rfl
   dsimp only [List.eraseIdx] at HS
   exact by (
   replace HS := HS.seal rfl rfl
   obtain ⟨Lv796, hL797, HS⟩ := HS.pre2 lf3
   obtain ⟨⟨q798, q799⟩, H⟩ := if_some H
   refine c_ func20 (laws_markIntS.leaf A674 t649.2.1.f0.length c675 ((1 + ((n22 t649.1.f0) : Int)) + ((n56 t649.1.f1) : Int)) Lv796 _ (HS.preK 0 rfl) q798 (by rw [hL797]; exact q799) (((1 + ((n22 t649.1.f0) : Int)) + ((n56 t649.1.f1) : Int)) + ((n22 t649.2.1.f0) : Int)) (by rw [hL797]; rfl)) ?_
   rintro _ w800 ⟨rfl, hm_⟩
   replace HS := HS.marked 0 rfl hm_
   dsimp only [List.set] at HS
   refine ⟨_, rfl, ?_⟩
   exact by (
   clear hm_
   have hn801 : ¬ (((1 + ((n22 t649.1.f0) : Int)) + ((n56 t649.1.f1) : Int)) + ((n22 t649.2.1.f0) : Int)) < 0 := by omega
   refine ad_ hK795 ?_
   clear hK795
   refine sr_ fun _ hK802 => ?_
   refine mv_ ?_
   refine ad_ hK802 ?_
   clear hK802
   exact by (
   refine WC.ret ?_
   refine fin1 Try.f66 rfl rfl hR791 ⟨_, rfl, ?_⟩
   refine ad_ hK790 ?_
   clear hK790
   refine sr_ fun _ hK803 => ?_
   refine ad_ hK803 ?_
   clear hK803
   refine sr_ fun _ hK804 => ?_
   exact by (
   refine v_ (ls_ (HS.mu 15 rfl) underlying58 part_all) ?_
   refine mv_ ?_
   refine ci_ (args := [.agg #[(.slice A669 t649.1.f0.length c670), (.slice A671 t649.1.f1.length c672)], vi 1]) func70 ?_
   refine cw_ (n := 18) func70 fun _ hR805 => ?_
   refine sr_ fun _ hK806 => ?_
   refine bo_ HS (fun b807 w808 hb807 HS => ?_)
   refine ad_ hK806 ?_
   clear hK806
   exact by (
   refine sr_ fun _ hK809 => ?_
   refine v_ (fa_ underlying58) ?_
   refine v_ (lb_ (HS.mu 0 rfl) underlying22 rfl) ?_
   refine mv_ ?_
   refine c_ func32 (laws_heldIntS.leaf A669 t649.1.f0.length c670 1 Lv776 _ (HS.leafK 4 rfl) (HS.leafT 4 rfl) q778 (by rw [hL777]; exact q779) (1 + ((n22 t649.1.f0) : Int)) (by rw [hL777]; rfl)) ?_
   rintro _ w810 ⟨rfl, hm_⟩
   replace HS := HS.below hm_
   refine ⟨_, rfl, ?_⟩
   exact by (
   clear hm_
   have hn811 : ¬ (1 + ((n22 t649.1.f0) : Int)) < 0 := by omega
   refine ad_ hK809 ?_
   clear hK809
   refine WC.seq fun _ hK812 => ?_
   refine sr_ fun _ hK813 => ?_
   refine mv_ ?_
   refine b_ bin_lss ?_
   exact by (
   refine dn_ hK813 (wn_ (dF hn811) (WC.skip (via_ hK812 (sr_ fun _ hK814 => ?_))))
   clear hK813 hK812
   refine v_ (fa_ underlying58) ?_
   refine v_ (lb_ (HS.mu 0 rfl) underlying56 rfl) ?_
   refine mv_ ?_
   refine c_ func131 (laws_heldCellSS.leaf A671 t649.1.f1.length c672 (1 + ((n22 t649.1.f0) : Int)) Lv783 _ (HS.leafK 3 rfl) (HS.leafT 3 rfl) q785 (by rw [hL784]; exact q786) ((1 + ((n22 t649.1.f0) : Int)) + ((n56 t649.1.f1) : Int)) (by rw [hL784]; rfl)) ?_
   rintro _ w815 ⟨rfl, hm_⟩
   replace HS := HS.below hm_
   exact by (
   refine ⟨_, rfl, ?_⟩
   clear hm_
   have hn816 : ¬ ((1 + ((n22 t649.1.f0) : Int)) + ((n56 t649.1.f1) : Int)) < 0 := by omega
   refine ad_ hK814 ?_
   clear hK814
   refine WC.seq fun _ hK817 => ?_
   refine sr_ fun _ hK818 => ?_
   refine mv_ ?_
   exact by (
   refine b_ bin_lss ?_
   refine dn_ hK818 (wn_ (dF hn816) (WC.skip (via_ hK817 (sr_ fun _ hK819 => ?_))))
   clear hK818 hK817
   refine mv_ ?_
   refine ad_ hK819 ?_
   clear hK819
   refine WC.ret ?_
   refine fin1 Try.f70 rfl rfl hR805 ⟨_, rfl, ?_⟩
   exact by (
   refine ad_ hK804 ?_
   clear hK804
   refine WC.seq fun _ hK820 => ?_
   refine sr_ fun _ hK821 => ?_
   refine mv_ ?_
   refine b_ bin_lss ?_
   refine dn_ hK821 (wn_ (dF hn816) (WC.skip (via_ hK820 (sr_ fun _ hK822 => ?_))))
   clear hK821 hK820
   exact by (
   refine v_ (ls_ (HS.mu 15 rfl) underlying67 part_all) ?_
   refine mv_ ?_
   refine ci_ (args := [.agg #[(.slice A674 t649.2.1.f0.length c675), vi t649.2.1.f1], vi ((1 + ((n22 t649.1.f0) : Int)) + ((n56 t649.1.f1) : Int))]) func72 ?_
   refine cw_ (n := 12) func72 fun _ hR823 => ?_
   refine sr_ fun _ hK824 => ?_
   refine bo_ HS (fun b825 w826 hb825 HS => ?_)
   refine ad_ hK824 ?_
   clear hK824
   exact by (
   refine sr_ fun _ hK827 => ?_
   refine v_ (fa_ underlying67) ?_
   refine v_ (lb_ (HS.mu 0 rfl) underlying22 rfl) ?_
   refine mv_ ?_
   refine c_ func32 (laws_heldIntS.leaf A674 t649.2.1.f0.length c675 ((1 + ((n22 t649.1.f0) : Int)) + ((n56 t649.1.f1) : Int)) Lv796 _ (HS.leafK 2 rfl) (HS.leafT 2 rfl) q798 (by rw [hL797]; exact q799) (((1 + ((n22 t649.1.f0) : Int)) + ((n56 t649.1.f1) : Int)) + ((n22 t649.2.1.f0) : Int)) (by rw [hL797]; rfl)) ?_
   rintro _ w828 ⟨rfl, hm_⟩
   replace HS := HS.below hm_
   refine ⟨_, rfl, ?_⟩
   exact by (
   clear hm_
   have hn829 : ¬ (((1 + ((n22 t649.1.f0) : Int)) + ((n56 t649.1.f1) : Int)) + ((n22 t649.2.1.f0) : Int)) < 0 := by omega
   refine ad_ hK827 ?_
   clear hK827
   refine WC.seq fun _ hK830 => ?_
   refine sr_ fun _ hK831 => ?_
   refine mv_ ?_
   refine b_ bin_lss ?_
   exact by (
   refine dn_ hK831 (wn_ (dF hn829) (WC.skip (via_ hK830 (sr_ fun _ hK832 => ?_))))
   clear hK831 hK830
   refine mv_ ?_
   refine ad_ hK832 ?_
   clear hK832
   refine WC.ret ?_
   refine fin1 Try.f72 rfl rfl hR823 ⟨_, rfl, ?_⟩
   refine ad_ hK822 ?_
   exact by (
   clear hK822
   refine WC.seq fun _ hK833 => ?_
   refine sr_ fun _ hK834 => ?_
   refine mv_ ?_
   refine b_ bin_lss ?_
   refine dn_ hK834 (wn_ (dF hn829) (WC.skip (via_ hK833 (WC.seq fun _ hK835 => ?_))))
   clear hK834 hK833
   refine sr_ fun _ hK836 => ?_
   exact by (
   refine mv_ ?_
   refine mv_ ?_
   refine b_ bin_neq ?_
   refine dn_ hK836 (wn_ (qF rfl) (WC.skip (via_ hK835 (WC.seq fun _ hK837 => ?_))))
   clear hK836 hK835
   refine WC.drawW HS [boxM b4 #[.slice A1_0 x1.f0.length c1_0, vi x1.f1] 85, boxM b2 #[.slice A0_0 x0.f0.length c0_0, .slice A0_1 x0.f1.length c0_1] 84] (fun _ HS => ⟨(HS.mu 26 rfl), (HS.mu 27 rfl), trivial⟩) [] rfl rfl (fun w838 HS => ?_)
   refine dt_ 0 ⟨HS.nowO, HS.nowN, ⟨(HS.mu 26 rfl), (HS.mu 27 rfl), trivial⟩⟩ (fun w_ hw_ => Run.loadS (cs := [.slice A0_0 x0.f0.length c0_0, .slice A0_1 x0.f1.length c0_1]) rfl rfl underlying84 rfl (by kernel_rfl) (box_part hw_.2.2.2.1 part_all)) ?_
   refine dt_ 2 ⟨HS.nowO, HS.nowN, ⟨(HS.mu 26 rfl), (HS.mu 27 rfl), trivial⟩⟩ (fun w_ hw_ => Run.loadS (cs := [.slice A1_0 x1.f0.length c1_0, vi x1.f1]) rfl rfl underlying85 rfl (by kernel_rfl) (box_part hw_.2.2.1 part_all)) ?_
   exact by (
   refine joinWD (fun E_ W_ => ∃ (b879 : Nat) (b881 : Nat) (A858 : Option Addr) (t840 : S58) (c859 : Nat) (A860 : Option Addr) (c861 : Nat) (A862 : Option Addr) (t851 : S67) (c863 : Nat) (v867 : Value) (v869 : Value) (v871 : Value) (t864 : S58 × S67 × Bool) (I877 : List Value) (I875 : List Value) (bl876 : List Nat) (I873 : List Value) (I856 : List Value) (I849 : List Value) (bl850 : List Nat) (I847 : List Value), E_ = [(0, .agg #[.slice A0_0 x0.f0.length c0_0, .slice A0_1 x0.f1.length c0_1]), (1, .agg #[.slice A1_0 x1.f0.length c1_0, vi x1.f1]), (2, .pointer (some ⟨b2, 0, none⟩)), (3, .pointer (some ⟨b4, 0, none⟩)), (4, .bool false), (5, vi t16), (6, .pointer (some ⟨b65, 0, none⟩)), (7, .pointer (some ⟨b67, 0, none⟩)), (8, .bool t50.2.2), (9, .pointer (some ⟨b628, 0, none⟩)), (10, .pointer (some ⟨b643, 0, none⟩)), (11, .pointer (some ⟨b664, 0, none⟩)), (12, .pointer (some ⟨b666, 0, none⟩)), (13, .bool t649.2.2), (14, vi (((1 + ((n22 t617.f0) : Int)) + ((n56 t617.f1) : Int)) + ((n22 t636.f0) : Int))), (15, vi (((1 + ((n22 t649.1.f0) : Int)) + ((n56 t649.1.f1) : Int)) + ((n22 t649.2.1.f0) : Int))), (16, vi (((1 + ((n22 t649.1.f0) : Int)) + ((n56 t649.1.f1) : Int)) + ((n22 t649.2.1.f0) : Int))), (17, .pointer (some ⟨b879, 0, none⟩)), (18, .pointer (some ⟨b881, 0, none⟩)), (20, .agg #[.slice A0_0 x0.f0.length c0_0, .slice A0_1 x0.f1.length c0_1]), (21, vi 1048576), (22, vi t8), (23, vi t8), (24, .bool (decide (t8 < 0))), (25, .agg #[.slice A1_0 x1.f0.length c1_0, vi x1.f1]), (26, vi t8), (27, vi t16), (28, vi t16), (29, .bool (decide (t16 < 0))), (31, .agg #[.slice A0_0 x0.f0.length c0_0, .slice A0_1 x0.f1.length c0_1]), (32, .agg #[(.slice A44 t26.f0.length c45), (.slice A46 t26.f1.length c47)]), (33, .agg #[.slice A1_0 x1.f0.length c1_0, vi x1.f1]), (34, .agg #[(.slice A48 t37.f0.length c49), vi t37.f1]), (36, .agg #[.slice A53 t50.1.f0.length c54, .slice A57 t50.1.f1.length c58]), (37, .agg #[.slice A61 t50.2.1.f0.length c62, vi t50.2.1.f1]), (38, .bool t50.2.2), (39, .agg #[.slice A0_0 x0.f0.length c0_0, .slice A0_1 x0.f1.length c0_1]), (40, .agg #[(.slice A631 t617.f0.length c632), (.slice A633 t617.f1.length c634)]), (41, .agg #[.slice A1_0 x1.f0.length c1_0, vi x1.f1]), (42, .agg #[(.slice A646 t636.f0.length c647), vi t636.f1]), (44, .agg #[(.slice A631 t617.f0.length c632), (.slice A633 t617.f1.length c634)]), (45, .agg #[(.slice A646 t636.f0.length c647), vi t636.f1]), (47, .agg #[(.slice A669 t649.1.f0.length c670), (.slice A671 t649.1.f1.length c672)]), (48, .agg #[(.slice A674 t649.2.1.f0.length c675), vi t649.2.1.f1]), (49, .bool t649.2.2), (50, .agg #[(.slice A669 t649.1.f0.length c670), (.slice A671 t649.1.f1.length c672)]), (51, .agg #[.slice A53 t50.1.f0.length c54, .slice A57 t50.1.f1.length c58]), (52, .bool t678), (53, .bool (!t678)), (54, .bool (!t678)), (55, .agg #[(.slice A674 t649.2.1.f0.length c675), vi t649.2.1.f1]), (56, .agg #[.slice A61 t50.2.1.f0.length c62, vi t50.2.1.f1]), (57, .bool t682), (58, .bool (!t682)), (59, .bool (!t682)), (60, .bool (!t682)), (61, .bool t649.2.2), (62, .bool t50.2.2), (63, .bool (t649.2.2 != t50.2.2)), (64, .bool (t649.2.2 != t50.2.2)), (65, .agg #[(.slice A631 t617.f0.length c632), (.slice A633 t617.f1.length c634)]), (66, .agg #[.slice A0_0 x0.f0.length c0_0, .slice A0_1 x0.f1.length c0_1]), (67, .agg #[(.slice A701 t690.f0.length c702), (.slice A703 t690.f1.length c704)]), (68, .bool t705), (69, .bool (!t705)), (70, .agg #[(.slice A646 t636.f0.length c647), vi t636.f1]), (71, .agg #[.slice A1_0 x1.f0.length c1_0, vi x1.f1]), (72, .agg #[(.slice A719 t712.f0.length c720), vi t712.f1]), (73, .bool t721), (74, .bool (!t721)), (75, .agg #[(.slice A631 t617.f0.length c632), (.slice A633 t617.f1.length c634)]), (76, vi 1), (77, vi ((1 + ((n22 t617.f0) : Int)) + ((n56 t617.f1) : Int))), (78, .agg #[(.slice A646 t636.f0.length c647), vi t636.f1]), (79, vi ((1 + ((n22 t617.f0) : Int)) + ((n56 t617.f1) : Int))), (80, vi (((1 + ((n22 t617.f0) : Int)) + ((n56 t617.f1) : Int)) + ((n22 t636.f0) : Int))), (81, vi (((1 + ((n22 t617.f0) : Int)) + ((n56 t617.f1) : Int)) + ((n22 t636.f0) : Int))), (82, .bool (decide ((((1 + ((n22 t617.f0) : Int)) + ((n56 t617.f1) : Int)) + ((n22 t636.f0) : Int)) < 0))), (83, .bool (decide ((((1 + ((n22 t617.f0) : Int)) + ((n56 t617.f1) : Int)) + ((n22 t636.f0) : Int)) < 0))), (84, .agg #[(.slice A669 t649.1.f0.length c670), (.slice A671 t649.1.f1.length c672)]), (85, .agg #[.slice A53 t50.1.f0.length c54, .slice A57 t50.1.f1.length c58]), (86, .bool t761), (87, .bool (!t761)), (88, .bool (!t761)), (89, .bool (!t761)), (90, .agg #[(.slice A674 t649.2.1.f0.length c675), vi t649.2.1.f1]), (91, .agg #[.slice A61 t50.2.1.f0.length c62, vi t50.2.1.f1]), (92, .bool t765), (93, .bool (!t765)), (94, .bool (!t765)), (95, .bool (!t765)), (96, .bool t649.2.2), (97, .bool t50.2.2), (98, .bool (t649.2.2 != t50.2.2)), (99, .bool (t649.2.2 != t50.2.2)), (100, .agg #[(.slice A669 t649.1.f0.length c670), (.slice A671 t649.1.f1.length c672)]), (101, vi 1), (102, vi ((1 + ((n22 t649.1.f0) : Int)) + ((n56 t649.1.f1) : Int))), (103, .agg #[(.slice A674 t649.2.1.f0.length c675), vi t649.2.1.f1]), (104, vi ((1 + ((n22 t649.1.f0) : Int)) + ((n56 t649.1.f1) : Int))), (105, vi (((1 + ((n22 t649.1.f0) : Int)) + ((n56 t649.1.f1) : Int)) + ((n22 t649.2.1.f0) : Int))), (106, .agg #[(.slice A669 t649.1.f0.length c670), (.slice A671 t649.1.f1.length c672)]), (107, vi 1), (108, vi ((1 + ((n22 t649.1.f0) : Int)) + ((n56 t649.1.f1) : Int))), (109, vi ((1 + ((n22 t649.1.f0) : Int)) + ((n56 t649.1.f1) : Int))), (110, .bool (decide (((1 + ((n22 t649.1.f0) : Int)) + ((n56 t649.1.f1) : Int)) < 0))), (111, .agg #[(.slice A674 t649.2.1.f0.length c675), vi t649.2.1.f1]), (112, vi ((1 + ((n22 t649.1.f0) : Int)) + ((n56 t649.1.f1) : Int))), (113, vi (((1 + ((n22 t649.1.f0) : Int)) + ((n56 t649.1.f1) : Int)) + ((n22 t649.2.1.f0) : Int))), (114, vi (((1 + ((n22 t649.1.f0) : Int)) + ((n56 t649.1.f1) : Int)) + ((n22 t649.2.1.f0) : Int))), (115, .bool (decide ((((1 + ((n22 t649.1.f0) : Int)) + ((n56 t649.1.f1) : Int)) + ((n22 t649.2.1.f0) : Int)) < 0))), (116, vi (((1 + ((n22 t649.1.f0) : Int)) + ((n56 t649.1.f1) : Int)) + ((n22 t649.2.1.f0) : Int))), (117, vi (((1 + ((n22 t649.1.f0) : Int)) + ((n56 t649.1.f1) : Int)) + ((n22 t649.2.1.f0) : Int))), (118, .bool ((((1 + ((n22 t649.1.f0) : Int)) + ((n56 t649.1.f1) : Int)) + ((n22 t649.2.1.f0) : Int)) != (((1 + ((n22 t649.1.f0) : Int)) + ((n56 t649.1.f1) : Int)) + ((n22 t649.2.1.f0) : Int)))), (120, .agg #[.slice A0_0 x0.f0.length c0_0, .slice A0_1 x0.f1.length c0_1]), (121, .agg #[(.slice A858 t840.f0.length c859), (.slice A860 t840.f1.length c861)]), (122, .agg #[.slice A1_0 x1.f0.length c1_0, vi x1.f1]), (123, .agg #[(.slice A862 t851.f0.length c863), vi t851.f1]), (125, .agg #[v867, v869]), (126, .agg #[v871, vi t864.2.1.f1]), (127, .bool t864.2.2)] ∧ ((laws_eqStore.g k (⟨t864.1.f0, t864.1.f1⟩ : S58) (⟨t50.1.f0, t50.1.f1⟩ : S58)).bind fun t1438 => (if t1438 = true then ((laws_eqTable.g k (⟨t864.2.1.f0, t864.2.1.f1⟩ : S67) (⟨t50.2.1.f0, t50.2.1.f1⟩ : S67)).bind fun t1442 => (if t1442 = true then (if t864.2.2 = t50.2.2 then (some true) else (some false)) else (some false))) else (some false))) = some r ∧ St (fun _ => True) w W_ [boxM b881 #[sn, vi 0] 67, boxM b879 #[sn, sn] 58, rowM w.heap.size 3 1 v871 t864.2.1.f0.length I877, rowM w.heap.size 71 1 v869 t864.1.f1.length I875, elsM (Dk.slice 62 dq62) t864.1.f1 I875 bl876, rowM w.heap.size 3 1 v867 t864.1.f0.length I873, rowM w.heap.size 3 1 (.slice A862 t851.f0.length c863) t851.f0.length I856, rowM w.heap.size 71 1 (.slice A860 t840.f1.length c861) t840.f1.length I849, elsM (Dk.slice 62 dq62) t840.f1 I849 bl850, rowM w.heap.size 3 1 (.slice A858 t840.f0.length c859) t840.f0.length I847, boxM b825 #[(.slice A674 t649.2.1.f0.length c675), vi t649.2.1.f1] 67, boxM b807 #[(.slice A669 t649.1.f0.length c670), (.slice A671 t649.1.f1.length c672)] 58, leafM sh3 A674 t649.2.1.f0.length Lv796 ((1 + ((n22 t649.1.f0) : Int)) + ((n56 t649.1.f1) : Int)) (((.slice A674 t649.2.1.f0.length c675) : Value).ownBlock.toList ++ []), boxM b793 #[(.slice A674 t649.2.1.f0.length c675), vi t649.2.1.f1] 67, leafM sh71 A671 t649.1.f1.length Lv783 (1 + ((n22 t649.1.f0) : Int)) (((.slice A671 t649.1.f1.length c672) : Value).ownBlock.toList ++ bl661), leafM sh3 A669 t649.1.f0.length Lv776 1 (((.slice A669 t649.1.f0.length c670) : Value).ownBlock.toList ++ []), boxM b773 #[(.slice A669 t649.1.f0.length c670), (.slice A671 t649.1.f1.length c672)] 58, leafM sh3 A646 t636.f0.length Lv752 ((1 + ((n22 t617.f0) : Int)) + ((n56 t617.f1) : Int)) (((.slice A646 t636.f0.length c647) : Value).ownBlock.toList ++ []), boxM b749 #[(.slice A646 t636.f0.length c647), vi t636.f1] 67, leafM sh71 A633 t617.f1.length Lv739 (1 + ((n22 t617.f0) : Int)) (((.slice A633 t617.f1.length c634) : Value).ownBlock.toList ++ bl627), leafM sh3 A631 t617.f0.length Lv732 1 (((.slice A631 t617.f0.length c632) : Value).ownBlock.toList ++ []), boxM b729 #[(.slice A631 t617.f0.length c632), (.slice A633 t617.f1.length c634)] 58, rowM w.heap.size 3 1 (.slice A719 t712.f0.length c720) t712.f0.length I717, rowM w.heap.size 71 1 (.slice A703 t690.f1.length c704) t690.f1.length I699, elsM (Dk.slice 62 dq62) t690.f1 I699 bl700, rowM w.heap.size 3 1 (.slice A701 t690.f0.length c702) t690.f0.length I697, boxM b666 #[(.slice A674 t649.2.1.f0.length c675), vi t649.2.1.f1] 67, boxM b664 #[(.slice A669 t649.1.f0.length c670), (.slice A671 t649.1.f1.length c672)] 58, boxM b643 #[(.slice A646 t636.f0.length c647), vi t636.f1] 67, boxM b628 #[(.slice A631 t617.f0.length c632), (.slice A633 t617.f1.length c634)] 58, boxM b67 #[.slice A61 t50.2.1.f0.length c62, vi t50.2.1.f1] 67, boxM b65 #[.slice A53 t50.1.f0.length c54, .slice A57 t50.1.f1.length c58] 58, rowM w.heap.size 3 1 (.slice A48 t37.f0.length c49) t37.f0.length I42, rowM w.heap.size 71 1 (.slice A46 t26.f1.length c47) t26.f1.length I35, elsM (Dk.slice 62 dq62) t26.f1 I35 bl36, rowM w.heap.size 3 1 (.slice A44 t26.f0.length c45) t26.f0.length I33, boxM b4 #[.slice A1_0 x1.f0.length c1_0, vi x1.f1] 85, boxM b2 #[.slice A0_0 x0.f0.length c0_0, .slice A0_1 x0.f1.length c0_1] 84] [(cF kI A0_0 x0.f0), (cF kS98 A0_1 x0.f1), (cF kI A1_0 x1.f0)] [(rF kI t864.2.1.f0 I877), (rF kI t864.1.f0 I873), (rF kI t851.f0 I856), (rF kI t840.f0 I847), (rF kI t712.f0 I717), (rF kI t690.f0 I697), (rF kI t649.2.1.f0 I662), (rF kI t649.1.f0 I658), (rF kI t636.f0 I641), (rF kI t617.f0 I624), (cF kI A53 t50.1.f0), (cF kS62 A57 t50.1.f1), (cF kI A61 t50.2.1.f0), (rF kI t37.f0 I42), (rF kI t26.f0 I33)]) [1, 3, 4, 5, 6, 7, 8, 9, 10] 3 ?_ (fun X839 => ?_)
   · rintro E_ w1427 ⟨b879, b881, A858, t840, c859, A860, c861, A862, t851, c863, v867, v869, v871, t864, I877, I875, bl876, I873, I856, I849, bl850, I847, rfl, H, HS⟩
     obtain ⟨A1429, c1430, rfl⟩ := row_slice (HS.mu 5 rfl)
     obtain ⟨A1431, c1432, rfl⟩ := row_slice (HS.mu 3 rfl)
     refine WD.storeS 11 HS 1 rfl rfl rfl rfl (oneL rfl) (by kernel_rfl) (ble_ rfl) (cs' := #[(.slice A1429 t864.1.f0.length c1430), (.slice A1431 t864.1.f1.length c1432)]) (by kernel_rfl) (fun w1428 HS => ?_)
     dsimp only [List.set] at HS
     refine ⟨⟨HS.nowO, HS.nowN.2.2.2.2, ⟨(HS.mu 36 rfl), (HS.mu 37 rfl), trivial⟩⟩, ?_⟩
     obtain ⟨A1434, c1435, rfl⟩ := row_slice (HS.mu 2 rfl)
     exact by (
     refine WD.storeS 12 HS 0 rfl rfl rfl rfl (oneL rfl) (by kernel_rfl) (ble_ rfl) (cs' := #[(.slice A1434 t864.2.1.f0.length c1435), vi t864.2.1.f1]) (by kernel_rfl) (fun w1433 HS => ?_)
     dsimp only [List.set] at HS
     refine ⟨⟨HS.nowO, HS.nowN.2.2.2.2, ⟨(HS.mu 36 rfl), (HS.mu 37 rfl), trivial⟩⟩, ?_⟩
     refine dp_ 13 (fun _ => Run.assign rfl rfl) ?_
     refine dd_ (via_ hK837 (WC.seq fun _ hK1436 => ?_))
     clear hK837
     refine sr_ fun _ hK1437 => ?_
     refine v_ (ls_ (HS.mu 1 rfl) underlying58 part_all) ?_
     exact by (
     refine v_ (ls_ (HS.mu 31 rfl) underlying58 part_all) ?_
     obtain ⟨t1438, ha1439, H⟩ := bind_some H
     refine cs_ HS func63 (laws_eqStore.runs k (⟨t864.1.f0, t864.1.f1⟩ : S58) A1429 c1430 A1431 c1432 (⟨t50.1.f0, t50.1.f1⟩ : S58) A53 c54 A57 c58 t1438 _ (row_C rfl (HS.mu 5 rfl) (HS.getN 1 rfl)) (row_le (HS.mu 5 rfl)) (row_C rfl (HS.mu 3 rfl) (HS.elsK 4 rfl)) (row_le (HS.mu 3 rfl)) (HS.getN 10 rfl) le55 (HS.getN 11 rfl) le59 ha1439) (fun w1440 HS => ?_)
     clear ha1439
     refine nt_ ?_
     refine mv_ ?_
     rcases eti_ H with ⟨c1441, H⟩ | ⟨c1441, H⟩
     · refine off_ (c' := true) (nB (bF c1441)) ?_
       exact by (
       refine WL.know 132 (nB (bF c1441)) ?_
       refine fast_ ?_
       refine via_ hK1437 (wy_ rfl ?_)
       clear hK1437
       refine sr_ fun _ hK1484 => ?_
       refine ad_ hK1484 ?_
       clear hK1484
       obtain rfl := os H
       exact rt1 Try.f13 rfl rfl hR_ ⟨rfl, HS.b⟩ )
     exact by (
     refine on_ (nB c1441) (v_ (ls_ (HS.mu 0 rfl) underlying67 part_all) ?_)
     refine on_ (nB c1441) (v_ (ls_ (HS.mu 30 rfl) underlying67 part_all) ?_)
     refine on_ (nB c1441) ?_
     obtain ⟨t1442, ha1443, H⟩ := bind_some H
     refine cs_ HS func64 (laws_eqTable.runs k (⟨t864.2.1.f0, t864.2.1.f1⟩ : S67) A1434 c1435 (⟨t50.2.1.f0, t50.2.1.f1⟩ : S67) A61 c62 t1442 _ (row_C rfl (HS.mu 2 rfl) (HS.getN 0 rfl)) (row_le (HS.mu 2 rfl)) (HS.getN 12 rfl) le63 ha1443) (fun w1444 HS => ?_)
     clear ha1443
     refine on_ (nB c1441) (nt_ ?_)
     refine v_ (Run.pickF rfl rfl (nB c1441) rfl) ?_
     exact by (
     refine mv_ ?_
     rcases eti_ H with ⟨c1445, H⟩ | ⟨c1445, H⟩
     · refine off_ (c' := true) (nB (bF c1445)) ?_
       refine WL.know 138 (nB (bF c1445)) ?_
       refine fast_ ?_
       refine via_ hK1437 (wy_ rfl ?_)
       clear hK1437
       refine sr_ fun _ hK1483 => ?_
       exact by (
       refine ad_ hK1483 ?_
       clear hK1483
       obtain rfl := os H
       exact rt1 Try.f13 rfl rfl hR_ ⟨rfl, HS.b⟩ )
     refine on_ (nB c1445) (mv_ ?_)
     refine on_ (nB c1445) (mv_ ?_)
     refine on_ (nB c1445) (v_ (Run.binB rfl rfl rfl (bin_neqB underlying4)) ?_)
     refine v_ (Run.pickF rfl rfl (nB c1445) rfl) ?_
     exact by (
     refine dn_ hK1437 ?_
     clear hK1437
     rcases eti_ H with ⟨c1446, H⟩ | ⟨c1446, H⟩
     · refine wy_ (qT c1446) (sr_ fun _ hK1482 => ?_)
       refine ad_ hK1482 ?_
       clear hK1482
       obtain rfl := os H
       exact rt1 Try.f13 rfl rfl hR_ ⟨rfl, HS.b⟩
     exact by (
     refine wn_ (qF c1446) (WC.skip (via_ hK1436 (sr_ fun _ hK1447 => ?_)))
     clear hK1436
     refine ad_ hK1447 ?_
     clear hK1447
     refine sr_ fun _ hK1448 => ?_
     refine v_ (ls_ (HS.mu 27 rfl) underlying58 part_all) ?_
     refine mv_ ?_
     refine ci_ (args := [.agg #[(.slice A669 t649.1.f0.length c670), (.slice A671 t649.1.f1.length c672)], vi 1]) func70 ?_
     exact by (
     refine cw_ (n := 18) func70 fun _ hR1449 => ?_
     refine sr_ fun _ hK1450 => ?_
     refine bo_ HS (fun b1451 w1452 hb1451 HS => ?_)
     refine ad_ hK1450 ?_
     clear hK1450
     refine sr_ fun _ hK1453 => ?_
     refine v_ (fa_ underlying58) ?_
     refine v_ (lb_ (HS.mu 0 rfl) underlying22 rfl) ?_
     exact by (
     refine mv_ ?_
     refine c_ func32 (laws_heldIntS.leaf A669 t649.1.f0.length c670 1 Lv776 _ (HS.leafK 16 rfl) (HS.leafT 16 rfl) q778 (by rw [hL777]; exact q779) (1 + ((n22 t649.1.f0) : Int)) (by rw [hL777]; rfl)) ?_
     rintro _ w1454 ⟨rfl, hm_⟩
     replace HS := HS.below hm_
     refine ⟨_, rfl, ?_⟩
     clear hm_
     have hn1455 : ¬ (1 + ((n22 t649.1.f0) : Int)) < 0 := by omega
     refine ad_ hK1453 ?_
     exact by (
     clear hK1453
     refine WC.seq fun _ hK1456 => ?_
     refine sr_ fun _ hK1457 => ?_
     refine mv_ ?_
     refine b_ bin_lss ?_
     refine dn_ hK1457 (wn_ (dF hn1455) (WC.skip (via_ hK1456 (sr_ fun _ hK1458 => ?_))))
     clear hK1457 hK1456
     refine v_ (fa_ underlying58) ?_
     exact by (
     refine v_ (lb_ (HS.mu 0 rfl) underlying56 rfl) ?_
     refine mv_ ?_
     refine c_ func131 (laws_heldCellSS.leaf A671 t649.1.f1.length c672 (1 + ((n22 t649.1.f0) : Int)) Lv783 _ (HS.leafK 15 rfl) (HS.leafT 15 rfl) q785 (by rw [hL784]; exact q786) ((1 + ((n22 t649.1.f0) : Int)) + ((n56 t649.1.f1) : Int)) (by rw [hL784]; rfl)) ?_
     rintro _ w1459 ⟨rfl, hm_⟩
     replace HS := HS.below hm_
     refine ⟨_, rfl, ?_⟩
     clear hm_
     have hn1460 : ¬ ((1 + ((n22 t649.1.f0) : Int)) + ((n56 t649.1.f1) : Int)) < 0 := by omega
     exact by (
     refine ad_ hK1458 ?_
     clear hK1458
     refine WC.seq fun _ hK1461 => ?_
     refine sr_ fun _ hK1462 => ?_
     refine mv_ ?_
     refine b_ bin_lss ?_
     refine dn_ hK1462 (wn_ (dF hn1460) (WC.skip (via_ hK1461 (sr_ fun _ hK1463 => ?_))))
     clear hK1462 hK1461
     exact by (
     refine mv_ ?_
     refine ad_ hK1463 ?_
     clear hK1463
     refine WC.ret ?_
     refine fin1 Try.f70 rfl rfl hR1449 ⟨_, rfl, ?_⟩
     refine ad_ hK1448 ?_
     clear hK1448
     refine WC.seq fun _ hK1464 => ?_
     exact by (
     refine sr_ fun _ hK1465 => ?_
     refine mv_ ?_
     refine b_ bin_lss ?_
     refine dn_ hK1465 (wn_ (dF hn1460) (WC.skip (via_ hK1464 (sr_ fun _ hK1466 => ?_))))
     clear hK1465 hK1464
     refine v_ (ls_ (HS.mu 27 rfl) underlying67 part_all) ?_
     refine mv_ ?_
     refine ci_ (args := [.agg #[(.slice A674 t649.2.1.f0.length c675), vi t649.2.1.f1], vi ((1 + ((n22 t649.1.f0) : Int)) + ((n56 t649.1.f1) : Int))]) func72 ?_
     exact by (
     refine cw_ (n := 12) func72 fun _ hR1467 => ?_
     refine sr_ fun _ hK1468 => ?_
     refine bo_ HS (fun b1469 w1470 hb1469 HS => ?_)
     refine ad_ hK1468 ?_
     clear hK1468
     refine sr_ fun _ hK1471 => ?_
     refine v_ (fa_ underlying67) ?_
     refine v_ (lb_ (HS.mu 0 rfl) underlying22 rfl) ?_
     exact by (
     refine mv_ ?_
     refine c_ func32 (laws_heldIntS.leaf A674 t649.2.1.f0.length c675 ((1 + ((n22 t649.1.f0) : Int)) + ((n56 t649.1.f1) : Int)) Lv796 _ (HS.leafK 14 rfl) (HS.leafT 14 rfl) q798 (by rw [hL797]; exact q799) (((1 + ((n22 t649.1.f0) : Int)) + ((n56 t649.1.f1) : Int)) + ((n22 t649.2.1.f0) : Int)) (by rw [hL797]; rfl)) ?_
     rintro _ w1472 ⟨rfl, hm_⟩
     replace HS := HS.below hm_
     refine ⟨_, rfl, ?_⟩
     clear hm_
     have hn1473 : ¬ (((1 + ((n22 t649.1.f0) : Int)) + ((n56 t649.1.f1) : Int)) + ((n22 t649.2.1.f0) : Int)) < 0 := by omega
     refine ad_ hK1471 ?_
     exact by (
     clear hK1471
     refine WC.seq fun _ hK1474 => ?_
     refine sr_ fun _ hK1475 => ?_
     refine mv_ ?_
     refine b_ bin_lss ?_
     refine dn_ hK1475 (wn_ (dF hn1473) (WC.skip (via_ hK1474 (sr_ fun _ hK1476 => ?_))))
     clear hK1475 hK1474
     refine mv_ ?_
     exact by (
     refine ad_ hK1476 ?_
     clear hK1476
     refine WC.ret ?_
     refine fin1 Try.f72 rfl rfl hR1467 ⟨_, rfl, ?_⟩
     refine ad_ hK1466 ?_
     clear hK1466
     refine WC.seq fun _ hK1477 => ?_
     refine sr_ fun _ hK1478 => ?_
     exact by (
     refine mv_ ?_
     refine b_ bin_lss ?_
     refine dn_ hK1478 (wn_ (dF hn1473) (WC.skip (via_ hK1477 (WC.seq fun _ hK1479 => ?_))))
     clear hK1478 hK1477
     refine sr_ fun _ hK1480 => ?_
     refine mv_ ?_
     refine mv_ ?_
     refine b_ bin_neq ?_
     exact by (
     refine dn_ hK1480 (wn_ (qF rfl) (WC.skip (via_ hK1479 (sr_ fun _ hK1481 => ?_))))
     clear hK1480 hK1479
     refine ad_ hK1481 ?_
     clear hK1481
     obtain rfl := os H
     exact rt1 Try.f13 rfl rfl hR_ ⟨rfl, HS.b⟩ )))))))))))))))))))
   refine three__ 1 9 10 ?_ ?_ ?_
   · have HT_ := True.intro
     exact by (
     obtain ⟨t840, ha841, H⟩ := bind_some H
     refine dco_ 1 (w_none rfl) func60 (laws_toStore.runs k (⟨x0.f0, x0.f1⟩ : S84) A0_0 c0_0 A0_1 c0_1 t840 _ (HS.getO 0 rfl) hc0_0 (HS.getO 1 rfl) hc0_1 ha841) ?_
     clear ha841
     rintro _ w842 ⟨v843, bl844, v845, bl846, rfl, hO_, hb⟩
     replace HS := HS.got hb hO_
     dsimp only [List.cons_append, List.nil_append] at HS
     clear hO_
     obtain ⟨I847, bl848, HS⟩ := HS.unseal (sz := 1) rfl
     exact by (
     replace HS := HS.freezeN 1 (p := (rF kI t840.f0 I847)) rfl (fun _ hP_ _ => RepsB.reps hP_)
     dsimp only [List.eraseIdx] at HS
     replace HS := HS.front 1 rfl
     dsimp only [List.eraseIdx] at HS
     obtain ⟨I849, bl850, HS⟩ := HS.unseal (sz := 1) rfl
     refine ⟨⟨HS.nowO, HS.nowN.2, ⟨(HS.mu 29 rfl), (HS.mu 30 rfl), trivial⟩⟩, _, rfl, ?_⟩
     clear hb
     refine three__ 3 9 10 ?_ ?_ ?_
     · have HT_ := True.intro
       exact by (
       obtain ⟨t851, ha852, H⟩ := bind_some H
       refine dco_ 3 (w_none rfl) func61 (laws_toTable.runs k (⟨x1.f0, x1.f1⟩ : S85) A1_0 c1_0 t851 _ (HS.getO 2 rfl) hc1_0 ha852) ?_
       clear ha852
       rintro _ w853 ⟨v854, bl855, rfl, hO_, hb⟩
       replace HS := HS.got hb hO_
       dsimp only [List.cons_append, List.nil_append] at HS
       clear hO_
       obtain ⟨I856, bl857, HS⟩ := HS.unseal (sz := 1) rfl
       exact by (
       replace HS := HS.freezeN 1 (p := (rF kI t851.f0 I856)) rfl (fun _ hP_ _ => RepsB.reps hP_)
       dsimp only [List.eraseIdx] at HS
       refine ⟨⟨HS.nowO, HS.nowN.2.2, ⟨(HS.mu 30 rfl), (HS.mu 31 rfl), trivial⟩⟩, _, rfl, ?_⟩
       clear hb
       refine three__ 4 9 10 ?_ ?_ ?_
       · have HT_ := True.intro
         obtain ⟨A858, c859, rfl⟩ := row_slice (HS.mu 3 rfl)
         obtain ⟨A860, c861, rfl⟩ := row_slice (HS.mu 1 rfl)
         exact by (
         obtain ⟨A862, c863, rfl⟩ := row_slice (HS.mu 0 rfl)
         obtain ⟨t864, ha865, H⟩ := bind_some H
         refine dco_ 4 (w_none rfl) func54 (impl_ForkTable.runs k t840 A858 c859 A860 c861 t851 A862 c863 t864.1 t864.2.1 t864.2.2 _ (row_C rfl (HS.mu 3 rfl) (HS.getN 1 rfl)) (row_le (HS.mu 3 rfl)) (row_C rfl (HS.mu 1 rfl) (HS.elsK 2 rfl)) (row_le (HS.mu 1 rfl)) (row_C rfl (HS.mu 0 rfl) (HS.getN 0 rfl)) (row_le (HS.mu 0 rfl)) ha865) ?_
         clear ha865
         rintro _ w866 ⟨v867, bl868, v869, bl870, v871, bl872, rfl, hO_, hb⟩
         replace HS := HS.got hb hO_
         dsimp only [List.cons_append, List.nil_append] at HS
         clear hO_
         exact by (
         obtain ⟨I873, bl874, HS⟩ := HS.unseal (sz := 1) rfl
         replace HS := HS.freezeN 1 (p := (rF kI t864.1.f0 I873)) rfl (fun _ hP_ _ => RepsB.reps hP_)
         dsimp only [List.eraseIdx] at HS
         replace HS := HS.front 1 rfl
         dsimp only [List.eraseIdx] at HS
         obtain ⟨I875, bl876, HS⟩ := HS.unseal (sz := 1) rfl
         replace HS := HS.front 3 rfl
         dsimp only [List.eraseIdx] at HS
         exact by (
         obtain ⟨I877, bl878, HS⟩ := HS.unseal (sz := 1) rfl
         replace HS := HS.freezeN 1 (p := (rF kI t864.2.1.f0 I877)) rfl (fun _ hP_ _ => RepsB.reps hP_)
         dsimp only [List.eraseIdx] at HS
         refine ⟨⟨HS.nowO, HS.nowN.2.2.2.2, ⟨(HS.mu 34 rfl), (HS.mu 35 rfl), trivial⟩⟩, _, rfl, ?_⟩
         clear hb
         refine dm_ 5 ?_
         refine dp_ 6 (fun _ => Run.extract rfl rfl rfl) ?_
         refine dp_ 7 (fun _ => Run.extract rfl rfl rfl) ?_
         exact by (
         refine dp_ 8 (fun _ => Run.extract rfl rfl rfl) ?_
         refine two__ 9 10 ?_ ?_
         · have HT_ := True.intro
           refine WDo.alloc (v := .agg #[sn, sn]) (cs := #[sn, sn]) 9 (w_none rfl) HS rfl (by kernel_rfl) rfl (fun b879 w880 hb879 HS => ?_)
           refine ⟨⟨HS.nowO, HS.nowN.2.2.2.2, ⟨(HS.mu 35 rfl), (HS.mu 36 rfl), trivial⟩⟩, ?_⟩
           refine WD.alloc (v := .agg #[sn, vi 0]) (cs := #[sn, vi 0]) 10 (w_none rfl) HS rfl (by kernel_rfl) rfl (fun b881 w882 hb881 HS => ?_)
           refine ⟨⟨HS.nowO, HS.nowN.2.2.2.2, ⟨(HS.mu 36 rfl), (HS.mu 37 rfl), trivial⟩⟩, ?_⟩
           exact useWD X839 ⟨b879, b881, A858, t840, c859, A860, c861, A862, t851, c863, v867, v869, v871, t864, I877, I875, bl876, I873, I856, I849, bl850, I847, rfl, H, HS⟩
         · have HT_ := True.intro
           exact by (
           refine WDo.alloc (v := .agg #[sn, vi 0]) (cs := #[sn, vi 0]) 10 (w_none rfl) HS rfl (by kernel_rfl) rfl (fun b883 w884 hb883 HS => ?_)
           refine ⟨⟨HS.nowO, HS.nowN.2.2.2.2, ⟨(HS.mu 35 rfl), (HS.mu 36 rfl), trivial⟩⟩, ?_⟩
           refine WD.alloc (v := .agg #[sn, sn]) (cs := #[sn, sn]) 9 (w_none rfl) HS rfl (by kernel_rfl) rfl (fun b885 w886 hb885 HS => ?_)
           refine ⟨⟨HS.nowO, HS.nowN.2.2.2.2, ⟨(HS.mu 36 rfl), (HS.mu 37 rfl), trivial⟩⟩, ?_⟩
           exact useWD X839 ⟨b885, b883, A858, t840, c859, A860, c861, A862, t851, c863, v867, v869, v871, t864, I877, I875, bl876, I873, I856, I849, bl850, I847, rfl, H, (St.sel HS [1, 0, 2, 3, 4, 5, 6, 7, 8, 9, 10, 11, 12, 13, 14, 15, 16, 17, 18, 19, 20, 21, 22, 23, 24, 25, 26, 27, 28, 29, 30, 31, 32, 33, 34, 35, 36, 37])⟩ )))))
       · have HT_ := True.intro
         refine WDo.alloc (v := .agg #[sn, sn]) (cs := #[sn, sn]) 9 (w_none rfl) HS rfl (by kernel_rfl) rfl (fun b887 w888 hb887 HS => ?_)
         refine ⟨⟨HS.nowO, HS.nowN.2.2, ⟨(HS.mu 31 rfl), (HS.mu 32 rfl), trivial⟩⟩, ?_⟩
         exact by (
         refine two__ 4 10 ?_ ?_
         · have HT_ := True.intro
           obtain ⟨A889, c890, rfl⟩ := row_slice (HS.mu 4 rfl)
           obtain ⟨A891, c892, rfl⟩ := row_slice (HS.mu 2 rfl)
           obtain ⟨A893, c894, rfl⟩ := row_slice (HS.mu 1 rfl)
           obtain ⟨t895, ha896, H⟩ := bind_some H
           refine dco_ 4 (w_none rfl) func54 (impl_ForkTable.runs k t840 A889 c890 A891 c892 t851 A893 c894 t895.1 t895.2.1 t895.2.2 _ (row_C rfl (HS.mu 4 rfl) (HS.getN 1 rfl)) (row_le (HS.mu 4 rfl)) (row_C rfl (HS.mu 2 rfl) (HS.elsK 3 rfl)) (row_le (HS.mu 2 rfl)) (row_C rfl (HS.mu 1 rfl) (HS.getN 0 rfl)) (row_le (HS.mu 1 rfl)) ha896) ?_
           clear ha896
           exact by (
           rintro _ w897 ⟨v898, bl899, v900, bl901, v902, bl903, rfl, hO_, hb⟩
           replace HS := HS.got hb hO_
           dsimp only [List.cons_append, List.nil_append] at HS
           clear hO_
           obtain ⟨I904, bl905, HS⟩ := HS.unseal (sz := 1) rfl
           replace HS := HS.freezeN 1 (p := (rF kI t895.1.f0 I904)) rfl (fun _ hP_ _ => RepsB.reps hP_)
           dsimp only [List.eraseIdx] at HS
           replace HS := HS.front 1 rfl
           exact by (
           dsimp only [List.eraseIdx] at HS
           obtain ⟨I906, bl907, HS⟩ := HS.unseal (sz := 1) rfl
           replace HS := HS.front 3 rfl
           dsimp only [List.eraseIdx] at HS
           obtain ⟨I908, bl909, HS⟩ := HS.unseal (sz := 1) rfl
           replace HS := HS.freezeN 1 (p := (rF kI t895.2.1.f0 I908)) rfl (fun _ hP_ _ => RepsB.reps hP_)
           dsimp only [List.eraseIdx] at HS
           refine ⟨⟨HS.nowO, HS.nowN.2.2.2.2, ⟨(HS.mu 35 rfl), (HS.mu 36 rfl), trivial⟩⟩, _, rfl, ?_⟩
           exact by (
           clear hb
           refine dm_ 5 ?_
           refine dp_ 6 (fun _ => Run.extract rfl rfl rfl) ?_
           refine dp_ 7 (fun _ => Run.extract rfl rfl rfl) ?_
           refine dp_ 8 (fun _ => Run.extract rfl rfl rfl) ?_
           refine WD.alloc (v := .agg #[sn, vi 0]) (cs := #[sn, vi 0]) 10 (w_none rfl) HS rfl (by kernel_rfl) rfl (fun b910 w911 hb910 HS => ?_)
           refine ⟨⟨HS.nowO, HS.nowN.2.2.2.2, ⟨(HS.mu 36 rfl), (HS.mu 37 rfl), trivial⟩⟩, ?_⟩
           exact useWD X839 ⟨b887, b910, A889, t840, c890, A891, c892, A893, t851, c894, v898, v900, v902, t895, I908, I906, bl907, I904, I856, I849, bl850, I847, rfl, H, (St.sel HS [0, 5, 1, 2, 3, 4, 6, 7, 8, 9, 10, 11, 12, 13, 14, 15, 16, 17, 18, 19, 20, 21, 22, 23, 24, 25, 26, 27, 28, 29, 30, 31, 32, 33, 34, 35, 36, 37])⟩ )))
         · have HT_ := True.intro
           exact by (
           refine WDo.alloc (v := .agg #[sn, vi 0]) (cs := #[sn, vi 0]) 10 (w_none rfl) HS rfl (by kernel_rfl) rfl (fun b912 w913 hb912 HS => ?_)
           refine ⟨⟨HS.nowO, HS.nowN.2.2, ⟨(HS.mu 32 rfl), (HS.mu 33 rfl), trivial⟩⟩, ?_⟩
           obtain ⟨A914, c915, rfl⟩ := row_slice (HS.mu 5 rfl)
           obtain ⟨A916, c917, rfl⟩ := row_slice (HS.mu 3 rfl)
           obtain ⟨A918, c919, rfl⟩ := row_slice (HS.mu 2 rfl)
           obtain ⟨t920, ha921, H⟩ := bind_some H
           refine dc_ 4 (w_none rfl) func54 (impl_ForkTable.runs k t840 A914 c915 A916 c917 t851 A918 c919 t920.1 t920.2.1 t920.2.2 _ (row_C rfl (HS.mu 5 rfl) (HS.getN 1 rfl)) (row_le (HS.mu 5 rfl)) (row_C rfl (HS.mu 3 rfl) (HS.elsK 4 rfl)) (row_le (HS.mu 3 rfl)) (row_C rfl (HS.mu 2 rfl) (HS.getN 0 rfl)) (row_le (HS.mu 2 rfl)) ha921) ?_
           clear ha921
           exact by (
           rintro _ w922 ⟨v923, bl924, v925, bl926, v927, bl928, rfl, hO_, hb⟩
           replace HS := HS.got hb hO_
           dsimp only [List.cons_append, List.nil_append] at HS
           clear hO_
           obtain ⟨I929, bl930, HS⟩ := HS.unseal (sz := 1) rfl
           replace HS := HS.freezeN 1 (p := (rF kI t920.1.f0 I929)) rfl (fun _ hP_ _ => RepsB.reps hP_)
           dsimp only [List.eraseIdx] at HS
           replace HS := HS.front 1 rfl
           exact by (
           dsimp only [List.eraseIdx] at HS
           obtain ⟨I931, bl932, HS⟩ := HS.unseal (sz := 1) rfl
           replace HS := HS.front 3 rfl
           dsimp only [List.eraseIdx] at HS
           obtain ⟨I933, bl934, HS⟩ := HS.unseal (sz := 1) rfl
           replace HS := HS.freezeN 1 (p := (rF kI t920.2.1.f0 I933)) rfl (fun _ hP_ _ => RepsB.reps hP_)
           dsimp only [List.eraseIdx] at HS
           refine ⟨⟨HS.nowO, HS.nowN.2.2.2.2, ⟨(HS.mu 36 rfl), (HS.mu 37 rfl), trivial⟩⟩, _, rfl, ?_⟩
           exact by (
           clear hb
           refine dm_ 5 ?_
           refine dp_ 6 (fun _ => Run.extract rfl rfl rfl) ?_
           refine dp_ 7 (fun _ => Run.extract rfl rfl rfl) ?_
           refine dp_ 8 (fun _ => Run.extract rfl rfl rfl) ?_
           exact useWD X839 ⟨b887, b912, A914, t840, c915, A916, c917, A918, t851, c919, v923, v925, v927, t920, I933, I931, bl932, I929, I856, I849, bl850, I847, rfl, H, (St.sel HS [4, 5, 0, 1, 2, 3, 6, 7, 8, 9, 10, 11, 12, 13, 14, 15, 16, 17, 18, 19, 20, 21, 22, 23, 24, 25, 26, 27, 28, 29, 30, 31, 32, 33, 34, 35, 36, 37])⟩ )))))
       · have HT_ := True.intro
         refine WDo.alloc (v := .agg #[sn, vi 0]) (cs := #[sn, vi 0]) 10 (w_none rfl) HS rfl (by kernel_rfl) rfl (fun b935 w936 hb935 HS => ?_)
         exact by (
         refine ⟨⟨HS.nowO, HS.nowN.2.2, ⟨(HS.mu 31 rfl), (HS.mu 32 rfl), trivial⟩⟩, ?_⟩
         refine two__ 4 9 ?_ ?_
         · have HT_ := True.intro
           obtain ⟨A937, c938, rfl⟩ := row_slice (HS.mu 4 rfl)
           obtain ⟨A939, c940, rfl⟩ := row_slice (HS.mu 2 rfl)
           obtain ⟨A941, c942, rfl⟩ := row_slice (HS.mu 1 rfl)
           obtain ⟨t943, ha944, H⟩ := bind_some H
           refine dco_ 4 (w_none rfl) func54 (impl_ForkTable.runs k t840 A937 c938 A939 c940 t851 A941 c942 t943.1 t943.2.1 t943.2.2 _ (row_C rfl (HS.mu 4 rfl) (HS.getN 1 rfl)) (row_le (HS.mu 4 rfl)) (row_C rfl (HS.mu 2 rfl) (HS.elsK 3 rfl)) (row_le (HS.mu 2 rfl)) (row_C rfl (HS.mu 1 rfl) (HS.getN 0 rfl)) (row_le (HS.mu 1 rfl)) ha944) ?_
           exact by (
           clear ha944
           rintro _ w945 ⟨v946, bl947, v948, bl949, v950, bl951, rfl, hO_, hb⟩
           replace HS := HS.got hb hO_
           dsimp only [List.cons_append, List.nil_append] at HS
           clear hO_
           obtain ⟨I952, bl953, HS⟩ := HS.unseal (sz := 1) rfl
           replace HS := HS.freezeN 1 (p := (rF kI t943.1.f0 I952)) rfl (fun _ hP_ _ => RepsB.reps hP_)
           dsimp only [List.eraseIdx] at HS
           exact by (
           replace HS := HS.front 1 rfl
           dsimp only [List.eraseIdx] at HS
           obtain ⟨I954, bl955, HS⟩ := HS.unseal (sz := 1) rfl
           replace HS := HS.front 3 rfl
           dsimp only [List.eraseIdx] at HS
           obtain ⟨I956, bl957, HS⟩ := HS.unseal (sz := 1) rfl
           replace HS := HS.freezeN 1 (p := (rF kI t943.2.1.f0 I956)) rfl (fun _ hP_ _ => RepsB.reps hP_)
           dsimp only [List.eraseIdx] at HS
           exact by (
           refine ⟨⟨HS.nowO, HS.nowN.2.2.2.2, ⟨(HS.mu 35 rfl), (HS.mu 36 rfl), trivial⟩⟩, _, rfl, ?_⟩
           clear hb
           refine dm_ 5 ?_
           refine dp_ 6 (fun _ => Run.extract rfl rfl rfl) ?_
           refine dp_ 7 (fun _ => Run.extract rfl rfl rfl) ?_
           refine dp_ 8 (fun _ => Run.extract rfl rfl rfl) ?_
           refine WD.alloc (v := .agg #[sn, sn]) (cs := #[sn, sn]) 9 (w_none rfl) HS rfl (by kernel_rfl) rfl (fun b958 w959 hb958 HS => ?_)
           refine ⟨⟨HS.nowO, HS.nowN.2.2.2.2, ⟨(HS.mu 36 rfl), (HS.mu 37 rfl), trivial⟩⟩, ?_⟩
           exact useWD X839 ⟨b958, b935, A937, t840, c938, A939, c940, A941, t851, c942, v946, v948, v950, t943, I956, I954, bl955, I952, I856, I849, bl850, I847, rfl, H, (St.sel HS [5, 0, 1, 2, 3, 4, 6, 7, 8, 9, 10, 11, 12, 13, 14, 15, 16, 17, 18, 19, 20, 21, 22, 23, 24, 25, 26, 27, 28, 29, 30, 31, 32, 33, 34, 35, 36, 37])⟩ )))
         · have HT_ := True.intro
           exact by (
           refine WDo.alloc (v := .agg #[sn, sn]) (cs := #[sn, sn]) 9 (w_none rfl) HS rfl (by kernel_rfl) rfl (fun b960 w961 hb960 HS => ?_)
           refine ⟨⟨HS.nowO, HS.nowN.2.2, ⟨(HS.mu 32 rfl), (HS.mu 33 rfl), trivial⟩⟩, ?_⟩
           obtain ⟨A962, c963, rfl⟩ := row_slice (HS.mu 5 rfl)
           obtain ⟨A964, c965, rfl⟩ := row_slice (HS.mu 3 rfl)
           obtain ⟨A966, c967, rfl⟩ := row_slice (HS.mu 2 rfl)
           obtain ⟨t968, ha969, H⟩ := bind_some H
           refine dc_ 4 (w_none rfl) func54 (impl_ForkTable.runs k t840 A962 c963 A964 c965 t851 A966 c967 t968.1 t968.2.1 t968.2.2 _ (row_C rfl (HS.mu 5 rfl) (HS.getN 1 rfl)) (row_le (HS.mu 5 rfl)) (row_C rfl (HS.mu 3 rfl) (HS.elsK 4 rfl)) (row_le (HS.mu 3 rfl)) (row_C rfl (HS.mu 2 rfl) (HS.getN 0 rfl)) (row_le (HS.mu 2 rfl)) ha969) ?_
           clear ha969
           exact by (
           rintro _ w970 ⟨v971, bl972, v973, bl974, v975, bl976, rfl, hO_, hb⟩
           replace HS := HS.got hb hO_
           dsimp only [List.cons_append, List.nil_append] at HS
           clear hO_
           obtain ⟨I977, bl978, HS⟩ := HS.unseal (sz := 1) rfl
           replace HS := HS.freezeN 1 (p := (rF kI t968.1.f0 I977)) rfl (fun _ hP_ _ => RepsB.reps hP_)
           dsimp only [List.eraseIdx] at HS
           replace HS := HS.front 1 rfl
           exact by (
           dsimp only [List.eraseIdx] at HS
           obtain ⟨I979, bl980, HS⟩ := HS.unseal (sz := 1) rfl
           replace HS := HS.front 3 rfl
           dsimp only [List.eraseIdx] at HS
           obtain ⟨I981, bl982, HS⟩ := HS.unseal (sz := 1) rfl
           replace HS := HS.freezeN 1 (p := (rF kI t968.2.1.f0 I981)) rfl (fun _ hP_ _ => RepsB.reps hP_)
           dsimp only [List.eraseIdx] at HS
           refine ⟨⟨HS.nowO, HS.nowN.2.2.2.2, ⟨(HS.mu 36 rfl), (HS.mu 37 rfl), trivial⟩⟩, _, rfl, ?_⟩
           exact by (
           clear hb
           refine dm_ 5 ?_
           refine dp_ 6 (fun _ => Run.extract rfl rfl rfl) ?_
           refine dp_ 7 (fun _ => Run.extract rfl rfl rfl) ?_
           refine dp_ 8 (fun _ => Run.extract rfl rfl rfl) ?_
           exact useWD X839 ⟨b960, b935, A962, t840, c963, A964, c965, A966, t851, c967, v971, v973, v975, t968, I981, I979, bl980, I977, I856, I849, bl850, I847, rfl, H, (St.sel HS [5, 4, 0, 1, 2, 3, 6, 7, 8, 9, 10, 11, 12, 13, 14, 15, 16, 17, 18, 19, 20, 21, 22, 23, 24, 25, 26, 27, 28, 29, 30, 31, 32, 33, 34, 35, 36, 37])⟩ )))))))
     · have HT_ := True.intro
       refine WDo.alloc (v := .agg #[sn, sn]) (cs := #[sn, sn]) 9 (w_none rfl) HS rfl (by kernel_rfl) rfl (fun b983 w984 hb983 HS => ?_)
       exact by (
       refine ⟨⟨HS.nowO, HS.nowN.2, ⟨(HS.mu 30 rfl), (HS.mu 31 rfl), trivial⟩⟩, ?_⟩
       refine two__ 3 10 ?_ ?_
       · have HT_ := True.intro
         obtain ⟨t985, ha986, H⟩ := bind_some H
         refine dco_ 3 (w_none rfl) func61 (laws_toTable.runs k (⟨x1.f0, x1.f1⟩ : S85) A1_0 c1_0 t985 _ (HS.getO 2 rfl) hc1_0 ha986) ?_
         clear ha986
         rintro _ w987 ⟨v988, bl989, rfl, hO_, hb⟩
         replace HS := HS.got hb hO_
         exact by (
         dsimp only [List.cons_append, List.nil_append] at HS
         clear hO_
         obtain ⟨I990, bl991, HS⟩ := HS.unseal (sz := 1) rfl
         replace HS := HS.freezeN 1 (p := (rF kI t985.f0 I990)) rfl (fun _ hP_ _ => RepsB.reps hP_)
         dsimp only [List.eraseIdx] at HS
         refine ⟨⟨HS.nowO, HS.nowN.2.2, ⟨(HS.mu 31 rfl), (HS.mu 32 rfl), trivial⟩⟩, _, rfl, ?_⟩
         clear hb
         refine two__ 4 10 ?_ ?_
         · have HT_ := True.intro
           exact by (
           obtain ⟨A992, c993, rfl⟩ := row_slice (HS.mu 4 rfl)
           obtain ⟨A994, c995, rfl⟩ := row_slice (HS.mu 2 rfl)
           obtain ⟨A996, c997, rfl⟩ := row_slice (HS.mu 0 rfl)
           obtain ⟨t998, ha999, H⟩ := bind_some H
           refine dco_ 4 (w_none rfl) func54 (impl_ForkTable.runs k t840 A992 c993 A994 c995 t985 A996 c997 t998.1 t998.2.1 t998.2.2 _ (row_C rfl (HS.mu 4 rfl) (HS.getN 1 rfl)) (row_le (HS.mu 4 rfl)) (row_C rfl (HS.mu 2 rfl) (HS.elsK 3 rfl)) (row_le (HS.mu 2 rfl)) (row_C rfl (HS.mu 0 rfl) (HS.getN 0 rfl)) (row_le (HS.mu 0 rfl)) ha999) ?_
           clear ha999
           rintro _ w1000 ⟨v1001, bl1002, v1003, bl1004, v1005, bl1006, rfl, hO_, hb⟩
           replace HS := HS.got hb hO_
           exact by (
           dsimp only [List.cons_append, List.nil_append] at HS
           clear hO_
           obtain ⟨I1007, bl1008, HS⟩ := HS.unseal (sz := 1) rfl
           replace HS := HS.freezeN 1 (p := (rF kI t998.1.f0 I1007)) rfl (fun _ hP_ _ => RepsB.reps hP_)
           dsimp only [List.eraseIdx] at HS
           replace HS := HS.front 1 rfl
           dsimp only [List.eraseIdx] at HS
           obtain ⟨I1009, bl1010, HS⟩ := HS.unseal (sz := 1) rfl
           exact by (
           replace HS := HS.front 3 rfl
           dsimp only [List.eraseIdx] at HS
           obtain ⟨I1011, bl1012, HS⟩ := HS.unseal (sz := 1) rfl
           replace HS := HS.freezeN 1 (p := (rF kI t998.2.1.f0 I1011)) rfl (fun _ hP_ _ => RepsB.reps hP_)
           dsimp only [List.eraseIdx] at HS
           refine ⟨⟨HS.nowO, HS.nowN.2.2.2.2, ⟨(HS.mu 35 rfl), (HS.mu 36 rfl), trivial⟩⟩, _, rfl, ?_⟩
           clear hb
           refine dm_ 5 ?_
           exact by (
           refine dp_ 6 (fun _ => Run.extract rfl rfl rfl) ?_
           refine dp_ 7 (fun _ => Run.extract rfl rfl rfl) ?_
           refine dp_ 8 (fun _ => Run.extract rfl rfl rfl) ?_
           refine WD.alloc (v := .agg #[sn, vi 0]) (cs := #[sn, vi 0]) 10 (w_none rfl) HS rfl (by kernel_rfl) rfl (fun b1013 w1014 hb1013 HS => ?_)
           refine ⟨⟨HS.nowO, HS.nowN.2.2.2.2, ⟨(HS.mu 36 rfl), (HS.mu 37 rfl), trivial⟩⟩, ?_⟩
           exact useWD X839 ⟨b983, b1013, A992, t840, c993, A994, c995, A996, t985, c997, v1001, v1003, v1005, t998, I1011, I1009, bl1010, I1007, I990, I849, bl850, I847, rfl, H, (St.sel HS [0, 6, 1, 2, 3, 4, 5, 7, 8, 9, 10, 11, 12, 13, 14, 15, 16, 17, 18, 19, 20, 21, 22, 23, 24, 25, 26, 27, 28, 29, 30, 31, 32, 33, 34, 35, 36, 37])⟩ ))))
         · have HT_ := True.intro
           refine WDo.alloc (v := .agg #[sn, vi 0]) (cs := #[sn, vi 0]) 10 (w_none rfl) HS rfl (by kernel_rfl) rfl (fun b1015 w1016 hb1015 HS => ?_)
           exact by (
           refine ⟨⟨HS.nowO, HS.nowN.2.2, ⟨(HS.mu 32 rfl), (HS.mu 33 rfl), trivial⟩⟩, ?_⟩
           obtain ⟨A1017, c1018, rfl⟩ := row_slice (HS.mu 5 rfl)
           obtain ⟨A1019, c1020, rfl⟩ := row_slice (HS.mu 3 rfl)
           obtain ⟨A1021, c1022, rfl⟩ := row_slice (HS.mu 1 rfl)
           obtain ⟨t1023, ha1024, H⟩ := bind_some H
           refine dc_ 4 (w_none rfl) func54 (impl_ForkTable.runs k t840 A1017 c1018 A1019 c1020 t985 A1021 c1022 t1023.1 t1023.2.1 t1023.2.2 _ (row_C rfl (HS.mu 5 rfl) (HS.getN 1 rfl)) (row_le (HS.mu 5 rfl)) (row_C rfl (HS.mu 3 rfl) (HS.elsK 4 rfl)) (row_le (HS.mu 3 rfl)) (row_C rfl (HS.mu 1 rfl) (HS.getN 0 rfl)) (row_le (HS.mu 1 rfl)) ha1024) ?_
           clear ha1024
           rintro _ w1025 ⟨v1026, bl1027, v1028, bl1029, v1030, bl1031, rfl, hO_, hb⟩
           exact by (
           replace HS := HS.got hb hO_
           dsimp only [List.cons_append, List.nil_append] at HS
           clear hO_
           obtain ⟨I1032, bl1033, HS⟩ := HS.unseal (sz := 1) rfl
           replace HS := HS.freezeN 1 (p := (rF kI t1023.1.f0 I1032)) rfl (fun _ hP_ _ => RepsB.reps hP_)
           dsimp only [List.eraseIdx] at HS
           replace HS := HS.front 1 rfl
           dsimp only [List.eraseIdx] at HS
           exact by (
           obtain ⟨I1034, bl1035, HS⟩ := HS.unseal (sz := 1) rfl
           replace HS := HS.front 3 rfl
           dsimp only [List.eraseIdx] at HS
           obtain ⟨I1036, bl1037, HS⟩ := HS.unseal (sz := 1) rfl
           replace HS := HS.freezeN 1 (p := (rF kI t1023.2.1.f0 I1036)) rfl (fun _ hP_ _ => RepsB.reps hP_)
           dsimp only [List.eraseIdx] at HS
           refine ⟨⟨HS.nowO, HS.nowN.2.2.2.2, ⟨(HS.mu 36 rfl), (HS.mu 37 rfl), trivial⟩⟩, _, rfl, ?_⟩
           clear hb
           exact by (
           refine dm_ 5 ?_
           refine dp_ 6 (fun _ => Run.extract rfl rfl rfl) ?_
           refine dp_ 7 (fun _ => Run.extract rfl rfl rfl) ?_
           refine dp_ 8 (fun _ => Run.extract rfl rfl rfl) ?_
           exact useWD X839 ⟨b983, b1015, A1017, t840, c1018, A1019, c1020, A1021, t985, c1022, v1026, v1028, v1030, t1023, I1036, I1034, bl1035, I1032, I990, I849, bl850, I847, rfl, H, (St.sel HS [4, 6, 0, 1, 2, 3, 5, 7, 8, 9, 10, 11, 12, 13, 14, 15, 16, 17, 18, 19, 20, 21, 22, 23, 24, 25, 26, 27, 28, 29, 30, 31, 32, 33, 34, 35, 36, 37])⟩ )))))
       · have HT_ := True.intro
         refine WDo.alloc (v := .agg #[sn, vi 0]) (cs := #[sn, vi 0]) 10 (w_none rfl) HS rfl (by kernel_rfl) rfl (fun b1038 w1039 hb1038 HS => ?_)
         refine ⟨⟨HS.nowO, HS.nowN.2, ⟨(HS.mu 31 rfl), (HS.mu 32 rfl), trivial⟩⟩, ?_⟩
         exact by (
         obtain ⟨t1040, ha1041, H⟩ := bind_some H
         refine dc_ 3 (w_none rfl) func61 (laws_toTable.runs k (⟨x1.f0, x1.f1⟩ : S85) A1_0 c1_0 t1040 _ (HS.getO 2 rfl) hc1_0 ha1041) ?_
         clear ha1041
         rintro _ w1042 ⟨v1043, bl1044, rfl, hO_, hb⟩
         replace HS := HS.got hb hO_
         dsimp only [List.cons_append, List.nil_append] at HS
         clear hO_
         obtain ⟨I1045, bl1046, HS⟩ := HS.unseal (sz := 1) rfl
         exact by (
         replace HS := HS.freezeN 1 (p := (rF kI t1040.f0 I1045)) rfl (fun _ hP_ _ => RepsB.reps hP_)
         dsimp only [List.eraseIdx] at HS
         refine ⟨⟨HS.nowO, HS.nowN.2.2, ⟨(HS.mu 32 rfl), (HS.mu 33 rfl), trivial⟩⟩, _, rfl, ?_⟩
         clear hb
         obtain ⟨A1047, c1048, rfl⟩ := row_slice (HS.mu 5 rfl)
         obtain ⟨A1049, c1050, rfl⟩ := row_slice (HS.mu 3 rfl)
         obtain ⟨A1051, c1052, rfl⟩ := row_slice (HS.mu 0 rfl)
         obtain ⟨t1053, ha1054, H⟩ := bind_some H
         exact by (
         refine dc_ 4 (w_none rfl) func54 (impl_ForkTable.runs k t840 A1047 c1048 A1049 c1050 t1040 A1051 c1052 t1053.1 t1053.2.1 t1053.2.2 _ (row_C rfl (HS.mu 5 rfl) (HS.getN 1 rfl)) (row_le (HS.mu 5 rfl)) (row_C rfl (HS.mu 3 rfl) (HS.elsK 4 rfl)) (row_le (HS.mu 3 rfl)) (row_C rfl (HS.mu 0 rfl) (HS.getN 0 rfl)) (row_le (HS.mu 0 rfl)) ha1054) ?_
         clear ha1054
         rintro _ w1055 ⟨v1056, bl1057, v1058, bl1059, v1060, bl1061, rfl, hO_, hb⟩
         replace HS := HS.got hb hO_
         dsimp only [List.cons_append, List.nil_append] at HS
         clear hO_
         obtain ⟨I1062, bl1063, HS⟩ := HS.unseal (sz := 1) rfl
         replace HS := HS.freezeN 1 (p := (rF kI t1053.1.f0 I1062)) rfl (fun _ hP_ _ => RepsB.reps hP_)
         exact by (
         dsimp only [List.eraseIdx] at HS
         replace HS := HS.front 1 rfl
         dsimp only [List.eraseIdx] at HS
         obtain ⟨I1064, bl1065, HS⟩ := HS.unseal (sz := 1) rfl
         replace HS := HS.front 3 rfl
         dsimp only [List.eraseIdx] at HS
         obtain ⟨I1066, bl1067, HS⟩ := HS.unseal (sz := 1) rfl
         replace HS := HS.freezeN 1 (p := (rF kI t1053.2.1.f0 I1066)) rfl (fun _ hP_ _ => RepsB.reps hP_)
         exact by (
         dsimp only [List.eraseIdx] at HS
         refine ⟨⟨HS.nowO, HS.nowN.2.2.2.2, ⟨(HS.mu 36 rfl), (HS.mu 37 rfl), trivial⟩⟩, _, rfl, ?_⟩
         clear hb
         refine dm_ 5 ?_
         refine dp_ 6 (fun _ => Run.extract rfl rfl rfl) ?_
         refine dp_ 7 (fun _ => Run.extract rfl rfl rfl) ?_
         refine dp_ 8 (fun _ => Run.extract rfl rfl rfl) ?_
         exact useWD X839 ⟨b983, b1038, A1047, t840, c1048, A1049, c1050, A1051, t1040, c1052, v1056, v1058, v1060, t1053, I1066, I1064, bl1065, I1062, I1045, I849, bl850, I847, rfl, H, (St.sel HS [5, 6, 0, 1, 2, 3, 4, 7, 8, 9, 10, 11, 12, 13, 14, 15, 16, 17, 18, 19, 20, 21, 22, 23, 24, 25, 26, 27, 28, 29, 30, 31, 32, 33, 34, 35, 36, 37])⟩ ))))))
     · have HT_ := True.intro
       exact by (
       refine WDo.alloc (v := .agg #[sn, vi 0]) (cs := #[sn, vi 0]) 10 (w_none rfl) HS rfl (by kernel_rfl) rfl (fun b1068 w1069 hb1068 HS => ?_)
       refine ⟨⟨HS.nowO, HS.nowN.2, ⟨(HS.mu 30 rfl), (HS.mu 31 rfl), trivial⟩⟩, ?_⟩
       refine two__ 3 9 ?_ ?_
       · have HT_ := True.intro
         obtain ⟨t1070, ha1071, H⟩ := bind_some H
         refine dco_ 3 (w_none rfl) func61 (laws_toTable.runs k (⟨x1.f0, x1.f1⟩ : S85) A1_0 c1_0 t1070 _ (HS.getO 2 rfl) hc1_0 ha1071) ?_
         clear ha1071
         rintro _ w1072 ⟨v1073, bl1074, rfl, hO_, hb⟩
         exact by (
         replace HS := HS.got hb hO_
         dsimp only [List.cons_append, List.nil_append] at HS
         clear hO_
         obtain ⟨I1075, bl1076, HS⟩ := HS.unseal (sz := 1) rfl
         replace HS := HS.freezeN 1 (p := (rF kI t1070.f0 I1075)) rfl (fun _ hP_ _ => RepsB.reps hP_)
         dsimp only [List.eraseIdx] at HS
         refine ⟨⟨HS.nowO, HS.nowN.2.2, ⟨(HS.mu 31 rfl), (HS.mu 32 rfl), trivial⟩⟩, _, rfl, ?_⟩
         clear hb
         exact by (
         refine two__ 4 9 ?_ ?_
         · have HT_ := True.intro
           obtain ⟨A1077, c1078, rfl⟩ := row_slice (HS.mu 4 rfl)
           obtain ⟨A1079, c1080, rfl⟩ := row_slice (HS.mu 2 rfl)
           obtain ⟨A1081, c1082, rfl⟩ := row_slice (HS.mu 0 rfl)
           obtain ⟨t1083, ha1084, H⟩ := bind_some H
           refine dco_ 4 (w_none rfl) func54 (impl_ForkTable.runs k t840 A1077 c1078 A1079 c1080 t1070 A1081 c1082 t1083.1 t1083.2.1 t1083.2.2 _ (row_C rfl (HS.mu 4 rfl) (HS.getN 1 rfl)) (row_le (HS.mu 4 rfl)) (row_C rfl (HS.mu 2 rfl) (HS.elsK 3 rfl)) (row_le (HS.mu 2 rfl)) (row_C rfl (HS.mu 0 rfl) (HS.getN 0 rfl)) (row_le (HS.mu 0 rfl)) ha1084) ?_
           clear ha1084
           exact by (
           rintro _ w1085 ⟨v1086, bl1087, v1088, bl1089, v1090, bl1091, rfl, hO_, hb⟩
           replace HS := HS.got hb hO_
           dsimp only [List.cons_append, List.nil_append] at HS
           clear hO_
           obtain ⟨I1092, bl1093, HS⟩ := HS.unseal (sz := 1) rfl
           replace HS := HS.freezeN 1 (p := (rF kI t1083.1.f0 I1092)) rfl (fun _ hP_ _ => RepsB.reps hP_)
           dsimp only [List.eraseIdx] at HS
           replace HS := HS.front 1 rfl
           exact by (
           dsimp only [List.eraseIdx] at HS
           obtain ⟨I1094, bl1095, HS⟩ := HS.unseal (sz := 1) rfl
           replace HS := HS.front 3 rfl
           dsimp only [List.eraseIdx] at HS
           obtain ⟨I1096, bl1097, HS⟩ := HS.unseal (sz := 1) rfl
           replace HS := HS.freezeN 1 (p := (rF kI t1083.2.1.f0 I1096)) rfl (fun _ hP_ _ => RepsB.reps hP_)
           dsimp only [List.eraseIdx] at HS
           refine ⟨⟨HS.nowO, HS.nowN.2.2.2.2, ⟨(HS.mu 35 rfl), (HS.mu 36 rfl), trivial⟩⟩, _, rfl, ?_⟩
           exact by (
           clear hb
           refine dm_ 5 ?_
           refine dp_ 6 (fun _ => Run.extract rfl rfl rfl) ?_
           refine dp_ 7 (fun _ => Run.extract rfl rfl rfl) ?_
           refine dp_ 8 (fun _ => Run.extract rfl rfl rfl) ?_
           refine WD.alloc (v := .agg #[sn, sn]) (cs := #[sn, sn]) 9 (w_none rfl) HS rfl (by kernel_rfl) rfl (fun b1098 w1099 hb1098 HS => ?_)
           refine ⟨⟨HS.nowO, HS.nowN.2.2.2.2, ⟨(HS.mu 36 rfl), (HS.mu 37 rfl), trivial⟩⟩, ?_⟩
           exact useWD X839 ⟨b1098, b1068, A1077, t840, c1078, A1079, c1080, A1081, t1070, c1082, v1086, v1088, v1090, t1083, I1096, I1094, bl1095, I1092, I1075, I849, bl850, I847, rfl, H, (St.sel HS [6, 0, 1, 2, 3, 4, 5, 7, 8, 9, 10, 11, 12, 13, 14, 15, 16, 17, 18, 19, 20, 21, 22, 23, 24, 25, 26, 27, 28, 29, 30, 31, 32, 33, 34, 35, 36, 37])⟩ )))
         · have HT_ := True.intro
           exact by (
           refine WDo.alloc (v := .agg #[sn, sn]) (cs := #[sn, sn]) 9 (w_none rfl) HS rfl (by kernel_rfl) rfl (fun b1100 w1101 hb1100 HS => ?_)
           refine ⟨⟨HS.nowO, HS.nowN.2.2, ⟨(HS.mu 32 rfl), (HS.mu 33 rfl), trivial⟩⟩, ?_⟩
           obtain ⟨A1102, c1103, rfl⟩ := row_slice (HS.mu 5 rfl)
           obtain ⟨A1104, c1105, rfl⟩ := row_slice (HS.mu 3 rfl)
           obtain ⟨A1106, c1107, rfl⟩ := row_slice (HS.mu 1 rfl)
           obtain ⟨t1108, ha1109, H⟩ := bind_some H
           refine dc_ 4 (w_none rfl) func54 (impl_ForkTable.runs k t840 A1102 c1103 A1104 c1105 t1070 A1106 c1107 t1108.1 t1108.2.1 t1108.2.2 _ (row_C rfl (HS.mu 5 rfl) (HS.getN 1 rfl)) (row_le (HS.mu 5 rfl)) (row_C rfl (HS.mu 3 rfl) (HS.elsK 4 rfl)) (row_le (HS.mu 3 rfl)) (row_C rfl (HS.mu 1 rfl) (HS.getN 0 rfl)) (row_le (HS.mu 1 rfl)) ha1109) ?_
           clear ha1109
           exact by (
           rintro _ w1110 ⟨v1111, bl1112, v1113, bl1114, v1115, bl1116, rfl, hO_, hb⟩
           replace HS := HS.got hb hO_
           dsimp only [List.cons_append, List.nil_append] at HS
           clear hO_
           obtain ⟨I1117, bl1118, HS⟩ := HS.unseal (sz := 1) rfl
           replace HS := HS.freezeN 1 (p := (rF kI t1108.1.f0 I1117)) rfl (fun _ hP_ _ => RepsB.reps hP_)
           dsimp only [List.eraseIdx] at HS
           replace HS := HS.front 1 rfl
           exact by (
           dsimp only [List.eraseIdx] at HS
           obtain ⟨I1119, bl1120, HS⟩ := HS.unseal (sz := 1) rfl
           replace HS := HS.front 3 rfl
           dsimp only [List.eraseIdx] at HS
           obtain ⟨I1121, bl1122, HS⟩ := HS.unseal (sz := 1) rfl
           replace HS := HS.freezeN 1 (p := (rF kI t1108.2.1.f0 I1121)) rfl (fun _ hP_ _ => RepsB.reps hP_)
           dsimp only [List.eraseIdx] at HS
           refine ⟨⟨HS.nowO, HS.nowN.2.2.2.2, ⟨(HS.mu 36 rfl), (HS.mu 37 rfl), trivial⟩⟩, _, rfl, ?_⟩
           exact by (
           clear hb
           refine dm_ 5 ?_
           refine dp_ 6 (fun _ => Run.extract rfl rfl rfl) ?_
           refine dp_ 7 (fun _ => Run.extract rfl rfl rfl) ?_
           refine dp_ 8 (fun _ => Run.extract rfl rfl rfl) ?_
           exact useWD X839 ⟨b1100, b1068, A1102, t840, c1103, A1104, c1105, A1106, t1070, c1107, v1111, v1113, v1115, t1108, I1121, I1119, bl1120, I1117, I1075, I849, bl850, I847, rfl, H, (St.sel HS [6, 4, 0, 1, 2, 3, 5, 7, 8, 9, 10, 11, 12, 13, 14, 15, 16, 17, 18, 19, 20, 21, 22, 23, 24, 25, 26, 27, 28, 29, 30, 31, 32, 33, 34, 35, 36, 37])⟩ ))))))
       · have HT_ := True.intro
         refine WDo.alloc (v := .agg #[sn, sn]) (cs := #[sn, sn]) 9 (w_none rfl) HS rfl (by kernel_rfl) rfl (fun b1123 w1124 hb1123 HS => ?_)
         exact by (
         refine ⟨⟨HS.nowO, HS.nowN.2, ⟨(HS.mu 31 rfl), (HS.mu 32 rfl), trivial⟩⟩, ?_⟩
         obtain ⟨t1125, ha1126, H⟩ := bind_some H
         refine dc_ 3 (w_none rfl) func61 (laws_toTable.runs k (⟨x1.f0, x1.f1⟩ : S85) A1_0 c1_0 t1125 _ (HS.getO 2 rfl) hc1_0 ha1126) ?_
         clear ha1126
         rintro _ w1127 ⟨v1128, bl1129, rfl, hO_, hb⟩
         replace HS := HS.got hb hO_
         dsimp only [List.cons_append, List.nil_append] at HS
         clear hO_
         exact by (
         obtain ⟨I1130, bl1131, HS⟩ := HS.unseal (sz := 1) rfl
         replace HS := HS.freezeN 1 (p := (rF kI t1125.f0 I1130)) rfl (fun _ hP_ _ => RepsB.reps hP_)
         dsimp only [List.eraseIdx] at HS
         refine ⟨⟨HS.nowO, HS.nowN.2.2, ⟨(HS.mu 32 rfl), (HS.mu 33 rfl), trivial⟩⟩, _, rfl, ?_⟩
         clear hb
         obtain ⟨A1132, c1133, rfl⟩ := row_slice (HS.mu 5 rfl)
         obtain ⟨A1134, c1135, rfl⟩ := row_slice (HS.mu 3 rfl)
         obtain ⟨A1136, c1137, rfl⟩ := row_slice (HS.mu 0 rfl)
         exact by (
         obtain ⟨t1138, ha1139, H⟩ := bind_some H
         refine dc_ 4 (w_none rfl) func54 (impl_ForkTable.runs k t840 A1132 c1133 A1134 c1135 t1125 A1136 c1137 t1138.1 t1138.2.1 t1138.2.2 _ (row_C rfl (HS.mu 5 rfl) (HS.getN 1 rfl)) (row_le (HS.mu 5 rfl)) (row_C rfl (HS.mu 3 rfl) (HS.elsK 4 rfl)) (row_le (HS.mu 3 rfl)) (row_C rfl (HS.mu 0 rfl) (HS.getN 0 rfl)) (row_le (HS.mu 0 rfl)) ha1139) ?_
         clear ha1139
         rintro _ w1140 ⟨v1141, bl1142, v1143, bl1144, v1145, bl1146, rfl, hO_, hb⟩
         replace HS := HS.got hb hO_
         dsimp only [List.cons_append, List.nil_append] at HS
         clear hO_
         obtain ⟨I1147, bl1148, HS⟩ := HS.unseal (sz := 1) rfl
         exact by (
         replace HS := HS.freezeN 1 (p := (rF kI t1138.1.f0 I1147)) rfl (fun _ hP_ _ => RepsB.reps hP_)
         dsimp only [List.eraseIdx] at HS
         replace HS := HS.front 1 rfl
         dsimp only [List.eraseIdx] at HS
         obtain ⟨I1149, bl1150, HS⟩ := HS.unseal (sz := 1) rfl
         replace HS := HS.front 3 rfl
         dsimp only [List.eraseIdx] at HS
         obtain ⟨I1151, bl1152, HS⟩ := HS.unseal (sz := 1) rfl
         exact by (
         replace HS := HS.freezeN 1 (p := (rF kI t1138.2.1.f0 I1151)) rfl (fun _ hP_ _ => RepsB.reps hP_)
         dsimp only [List.eraseIdx] at HS
         refine ⟨⟨HS.nowO, HS.nowN.2.2.2.2, ⟨(HS.mu 36 rfl), (HS.mu 37 rfl), trivial⟩⟩, _, rfl, ?_⟩
         clear hb
         refine dm_ 5 ?_
         refine dp_ 6 (fun _ => Run.extract rfl rfl rfl) ?_
         refine dp_ 7 (fun _ => Run.extract rfl rfl rfl) ?_
         refine dp_ 8 (fun _ => Run.extract rfl rfl rfl) ?_
         exact useWD X839 ⟨b1123, b1068, A1132, t840, c1133, A1134, c1135, A1136, t1125, c1137, v1141, v1143, v1145, t1138, I1151, I1149, bl1150, I1147, I1130, I849, bl850, I847, rfl, H, (St.sel HS [6, 5, 0, 1, 2, 3, 4, 7, 8, 9, 10, 11, 12, 13, 14, 15, 16, 17, 18, 19, 20, 21, 22, 23, 24, 25, 26, 27, 28, 29, 30, 31, 32, 33, 34, 35, 36, 37])⟩ ))))))))
   · have HT_ := True.intro
     exact by (
     refine WDo.alloc (v := .agg #[sn, sn]) (cs := #[sn, sn]) 9 (w_none rfl) HS rfl (by kernel_rfl) rfl (fun b1153 w1154 hb1153 HS => ?_)
     refine ⟨⟨HS.nowO, HS.nowN, ⟨(HS.mu 27 rfl), (HS.mu 28 rfl), trivial⟩⟩, ?_⟩
     refine two__ 1 10 ?_ ?_
     · have HT_ := True.intro
       obtain ⟨t1155, ha1156, H⟩ := bind_some H
       refine dco_ 1 (w_none rfl) func60 (laws_toStore.runs k (⟨x0.f0, x0.f1⟩ : S84) A0_0 c0_0 A0_1 c0_1 t1155 _ (HS.getO 0 rfl) hc0_0 (HS.getO 1 rfl) hc0_1 ha1156) ?_
       clear ha1156
       rintro _ w1157 ⟨v1158, bl1159, v1160, bl1161, rfl, hO_, hb⟩
       exact by (
       replace HS := HS.got hb hO_
       dsimp only [List.cons_append, List.nil_append] at HS
       clear hO_
       obtain ⟨I1162, bl1163, HS⟩ := HS.unseal (sz := 1) rfl
       replace HS := HS.freezeN 1 (p := (rF kI t1155.f0 I1162)) rfl (fun _ hP_ _ => RepsB.reps hP_)
       dsimp only [List.eraseIdx] at HS
       replace HS := HS.front 1 rfl
       dsimp only [List.eraseIdx] at HS
       exact by (
       obtain ⟨I1164, bl1165, HS⟩ := HS.unseal (sz := 1) rfl
       refine ⟨⟨HS.nowO, HS.nowN.2, ⟨(HS.mu 30 rfl), (HS.mu 31 rfl), trivial⟩⟩, _, rfl, ?_⟩
       clear hb
       refine two__ 3 10 ?_ ?_
       · have HT_ := True.intro
         obtain ⟨t1166, ha1167, H⟩ := bind_some H
         refine dco_ 3 (w_none rfl) func61 (laws_toTable.runs k (⟨x1.f0, x1.f1⟩ : S85) A1_0 c1_0 t1166 _ (HS.getO 2 rfl) hc1_0 ha1167) ?_
         clear ha1167
         exact by (
         rintro _ w1168 ⟨v1169, bl1170, rfl, hO_, hb⟩
         replace HS := HS.got hb hO_
         dsimp only [List.cons_append, List.nil_append] at HS
         clear hO_
         obtain ⟨I1171, bl1172, HS⟩ := HS.unseal (sz := 1) rfl
         replace HS := HS.freezeN 1 (p := (rF kI t1166.f0 I1171)) rfl (fun _ hP_ _ => RepsB.reps hP_)
         dsimp only [List.eraseIdx] at HS
         refine ⟨⟨HS.nowO, HS.nowN.2.2, ⟨(HS.mu 31 rfl), (HS.mu 32 rfl), trivial⟩⟩, _, rfl, ?_⟩
         exact by (
         clear hb
         refine two__ 4 10 ?_ ?_
         · have HT_ := True.intro
           obtain ⟨A1173, c1174, rfl⟩ := row_slice (HS.mu 3 rfl)
           obtain ⟨A1175, c1176, rfl⟩ := row_slice (HS.mu 1 rfl)
           obtain ⟨A1177, c1178, rfl⟩ := row_slice (HS.mu 0 rfl)
           obtain ⟨t1179, ha1180, H⟩ := bind_some H
           refine dco_ 4 (w_none rfl) func54 (impl_ForkTable.runs k t1155 A1173 c1174 A1175 c1176 t1166 A1177 c1178 t1179.1 t1179.2.1 t1179.2.2 _ (row_C rfl (HS.mu 3 rfl) (HS.getN 1 rfl)) (row_le (HS.mu 3 rfl)) (row_C rfl (HS.mu 1 rfl) (HS.elsK 2 rfl)) (row_le (HS.mu 1 rfl)) (row_C rfl (HS.mu 0 rfl) (HS.getN 0 rfl)) (row_le (HS.mu 0 rfl)) ha1180) ?_
           exact by (
           clear ha1180
           rintro _ w1181 ⟨v1182, bl1183, v1184, bl1185, v1186, bl1187, rfl, hO_, hb⟩
           replace HS := HS.got hb hO_
           dsimp only [List.cons_append, List.nil_append] at HS
           clear hO_
           obtain ⟨I1188, bl1189, HS⟩ := HS.unseal (sz := 1) rfl
           replace HS := HS.freezeN 1 (p := (rF kI t1179.1.f0 I1188)) rfl (fun _ hP_ _ => RepsB.reps hP_)
           dsimp only [List.eraseIdx] at HS
           exact by (
           replace HS := HS.front 1 rfl
           dsimp only [List.eraseIdx] at HS
           obtain ⟨I1190, bl1191, HS⟩ := HS.unseal (sz := 1) rfl
           replace HS := HS.front 3 rfl
           dsimp only [List.eraseIdx] at HS
           obtain ⟨I1192, bl1193, HS⟩ := HS.unseal (sz := 1) rfl
           replace HS := HS.freezeN 1 (p := (rF kI t1179.2.1.f0 I1192)) rfl (fun _ hP_ _ => RepsB.reps hP_)
           dsimp only [List.eraseIdx] at HS
           exact by (
           refine ⟨⟨HS.nowO, HS.nowN.2.2.2.2, ⟨(HS.mu 35 rfl), (HS.mu 36 rfl), trivial⟩⟩, _, rfl, ?_⟩
           clear hb
           refine dm_ 5 ?_
           refine dp_ 6 (fun _ => Run.extract rfl rfl rfl) ?_
           refine dp_ 7 (fun _ => Run.extract rfl rfl rfl) ?_
           refine dp_ 8 (fun _ => Run.extract rfl rfl rfl) ?_
           refine WD.alloc (v := .agg #[sn, vi 0]) (cs := #[sn, vi 0]) 10 (w_none rfl) HS rfl (by kernel_rfl) rfl (fun b1194 w1195 hb1194 HS => ?_)
           refine ⟨⟨HS.nowO, HS.nowN.2.2.2.2, ⟨(HS.mu 36 rfl), (HS.mu 37 rfl), trivial⟩⟩, ?_⟩
           exact useWD X839 ⟨b1153, b1194, A1173, t1155, c1174, A1175, c1176, A1177, t1166, c1178, v1182, v1184, v1186, t1179, I1192, I1190, bl1191, I1188, I1171, I1164, bl1165, I1162, rfl, H, (St.sel HS [0, 9, 1, 2, 3, 4, 5, 6, 7, 8, 10, 11, 12, 13, 14, 15, 16, 17, 18, 19, 20, 21, 22, 23, 24, 25, 26, 27, 28, 29, 30, 31, 32, 33, 34, 35, 36, 37])⟩ )))
         · have HT_ := True.intro
           exact by (
           refine WDo.alloc (v := .agg #[sn, vi 0]) (cs := #[sn, vi 0]) 10 (w_none rfl) HS rfl (by kernel_rfl) rfl (fun b1196 w1197 hb1196 HS => ?_)
           refine ⟨⟨HS.nowO, HS.nowN.2.2, ⟨(HS.mu 32 rfl), (HS.mu 33 rfl), trivial⟩⟩, ?_⟩
           obtain ⟨A1198, c1199, rfl⟩ := row_slice (HS.mu 4 rfl)
           obtain ⟨A1200, c1201, rfl⟩ := row_slice (HS.mu 2 rfl)
           obtain ⟨A1202, c1203, rfl⟩ := row_slice (HS.mu 1 rfl)
           obtain ⟨t1204, ha1205, H⟩ := bind_some H
           refine dc_ 4 (w_none rfl) func54 (impl_ForkTable.runs k t1155 A1198 c1199 A1200 c1201 t1166 A1202 c1203 t1204.1 t1204.2.1 t1204.2.2 _ (row_C rfl (HS.mu 4 rfl) (HS.getN 1 rfl)) (row_le (HS.mu 4 rfl)) (row_C rfl (HS.mu 2 rfl) (HS.elsK 3 rfl)) (row_le (HS.mu 2 rfl)) (row_C rfl (HS.mu 1 rfl) (HS.getN 0 rfl)) (row_le (HS.mu 1 rfl)) ha1205) ?_
           clear ha1205
           exact by (
           rintro _ w1206 ⟨v1207, bl1208, v1209, bl1210, v1211, bl1212, rfl, hO_, hb⟩
           replace HS := HS.got hb hO_
           dsimp only [List.cons_append, List.nil_append] at HS
           clear hO_
           obtain ⟨I1213, bl1214, HS⟩ := HS.unseal (sz := 1) rfl
           replace HS := HS.freezeN 1 (p := (rF kI t1204.1.f0 I1213)) rfl (fun _ hP_ _ => RepsB.reps hP_)
           dsimp only [List.eraseIdx] at HS
           replace HS := HS.front 1 rfl
           exact by (
           dsimp only [List.eraseIdx] at HS
           obtain ⟨I1215, bl1216, HS⟩ := HS.unseal (sz := 1) rfl
           replace HS := HS.front 3 rfl
           dsimp only [List.eraseIdx] at HS
           obtain ⟨I1217, bl1218, HS⟩ := HS.unseal (sz := 1) rfl
           replace HS := HS.freezeN 1 (p := (rF kI t1204.2.1.f0 I1217)) rfl (fun _ hP_ _ => RepsB.reps hP_)
           dsimp only [List.eraseIdx] at HS
           refine ⟨⟨HS.nowO, HS.nowN.2.2.2.2, ⟨(HS.mu 36 rfl), (HS.mu 37 rfl), trivial⟩⟩, _, rfl, ?_⟩
           exact by (
           clear hb
           refine dm_ 5 ?_
           refine dp_ 6 (fun _ => Run.extract rfl rfl rfl) ?_
           refine dp_ 7 (fun _ => Run.extract rfl rfl rfl) ?_
           refine dp_ 8 (fun _ => Run.extract rfl rfl rfl) ?_
           exact useWD X839 ⟨b1153, b1196, A1198, t1155, c1199, A1200, c1201, A1202, t1166, c1203, v1207, v1209, v1211, t1204, I1217, I1215, bl1216, I1213, I1171, I1164, bl1165, I1162, rfl, H, (St.sel HS [4, 9, 0, 1, 2, 3, 5, 6, 7, 8, 10, 11, 12, 13, 14, 15, 16, 17, 18, 19, 20, 21, 22, 23, 24, 25, 26, 27, 28, 29, 30, 31, 32, 33, 34, 35, 36, 37])⟩ ))))))
       · have HT_ := True.intro
         refine WDo.alloc (v := .agg #[sn, vi 0]) (cs := #[sn, vi 0]) 10 (w_none rfl) HS rfl (by kernel_rfl) rfl (fun b1219 w1220 hb1219 HS => ?_)
         exact by (
         refine ⟨⟨HS.nowO, HS.nowN.2, ⟨(HS.mu 31 rfl), (HS.mu 32 rfl), trivial⟩⟩, ?_⟩
         obtain ⟨t1221, ha1222, H⟩ := bind_some H
         refine dc_ 3 (w_none rfl) func61 (laws_toTable.runs k (⟨x1.f0, x1.f1⟩ : S85) A1_0 c1_0 t1221 _ (HS.getO 2 rfl) hc1_0 ha1222) ?_
         clear ha1222
         rintro _ w1223 ⟨v1224, bl1225, rfl, hO_, hb⟩
         replace HS := HS.got hb hO_
         dsimp only [List.cons_append, List.nil_append] at HS
         clear hO_
         exact by (
         obtain ⟨I1226, bl1227, HS⟩ := HS.unseal (sz := 1) rfl
         replace HS := HS.freezeN 1 (p := (rF kI t1221.f0 I1226)) rfl (fun _ hP_ _ => RepsB.reps hP_)
         dsimp only [List.eraseIdx] at HS
         refine ⟨⟨HS.nowO, HS.nowN.2.2, ⟨(HS.mu 32 rfl), (HS.mu 33 rfl), trivial⟩⟩, _, rfl, ?_⟩
         clear hb
         obtain ⟨A1228, c1229, rfl⟩ := row_slice (HS.mu 4 rfl)
         obtain ⟨A1230, c1231, rfl⟩ := row_slice (HS.mu 2 rfl)
         obtain ⟨A1232, c1233, rfl⟩ := row_slice (HS.mu 0 rfl)
         exact by (
         obtain ⟨t1234, ha1235, H⟩ := bind_some H
         refine dc_ 4 (w_none rfl) func54 (impl_ForkTable.runs k t1155 A1228 c1229 A1230 c1231 t1221 A1232 c1233 t1234.1 t1234.2.1 t1234.2.2 _ (row_C rfl (HS.mu 4 rfl) (HS.getN 1 rfl)) (row_le (HS.mu 4 rfl)) (row_C rfl (HS.mu 2 rfl) (HS.elsK 3 rfl)) (row_le (HS.mu 2 rfl)) (row_C rfl (HS.mu 0 rfl) (HS.getN 0 rfl)) (row_le (HS.mu 0 rfl)) ha1235) ?_
         clear ha1235
         rintro _ w1236 ⟨v1237, bl1238, v1239, bl1240, v1241, bl1242, rfl, hO_, hb⟩
         replace HS := HS.got hb hO_
         dsimp only [List.cons_append, List.nil_append] at HS
         clear hO_
         obtain ⟨I1243, bl1244, HS⟩ := HS.unseal (sz := 1) rfl
         exact by (
         replace HS := HS.freezeN 1 (p := (rF kI t1234.1.f0 I1243)) rfl (fun _ hP_ _ => RepsB.reps hP_)
         dsimp only [List.eraseIdx] at HS
         replace HS := HS.front 1 rfl
         dsimp only [List.eraseIdx] at HS
         obtain ⟨I1245, bl1246, HS⟩ := HS.unseal (sz := 1) rfl
         replace HS := HS.front 3 rfl
         dsimp only [List.eraseIdx] at HS
         obtain ⟨I1247, bl1248, HS⟩ := HS.unseal (sz := 1) rfl
         exact by (
         replace HS := HS.freezeN 1 (p := (rF kI t1234.2.1.f0 I1247)) rfl (fun _ hP_ _ => RepsB.reps hP_)
         dsimp only [List.eraseIdx] at HS
         refine ⟨⟨HS.nowO, HS.nowN.2.2.2.2, ⟨(HS.mu 36 rfl), (HS.mu 37 rfl), trivial⟩⟩, _, rfl, ?_⟩
         clear hb
         refine dm_ 5 ?_
         refine dp_ 6 (fun _ => Run.extract rfl rfl rfl) ?_
         refine dp_ 7 (fun _ => Run.extract rfl rfl rfl) ?_
         refine dp_ 8 (fun _ => Run.extract rfl rfl rfl) ?_
         exact useWD X839 ⟨b1153, b1219, A1228, t1155, c1229, A1230, c1231, A1232, t1221, c1233, v1237, v1239, v1241, t1234, I1247, I1245, bl1246, I1243, I1226, I1164, bl1165, I1162, rfl, H, (St.sel HS [5, 9, 0, 1, 2, 3, 4, 6, 7, 8, 10, 11, 12, 13, 14, 15, 16, 17, 18, 19, 20, 21, 22, 23, 24, 25, 26, 27, 28, 29, 30, 31, 32, 33, 34, 35, 36, 37])⟩ )))))))
     · have HT_ := True.intro
       exact by (
       refine WDo.alloc (v := .agg #[sn, vi 0]) (cs := #[sn, vi 0]) 10 (w_none rfl) HS rfl (by kernel_rfl) rfl (fun b1249 w1250 hb1249 HS => ?_)
       refine ⟨⟨HS.nowO, HS.nowN, ⟨(HS.mu 28 rfl), (HS.mu 29 rfl), trivial⟩⟩, ?_⟩
       obtain ⟨t1251, ha1252, H⟩ := bind_some H
       refine dc_ 1 (w_none rfl) func60 (laws_toStore.runs k (⟨x0.f0, x0.f1⟩ : S84) A0_0 c0_0 A0_1 c0_1 t1251 _ (HS.getO 0 rfl) hc0_0 (HS.getO 1 rfl) hc0_1 ha1252) ?_
       clear ha1252
       rintro _ w1253 ⟨v1254, bl1255, v1256, bl1257, rfl, hO_, hb⟩
       replace HS := HS.got hb hO_
       dsimp only [List.cons_append, List.nil_append] at HS
       exact by (
       clear hO_
       obtain ⟨I1258, bl1259, HS⟩ := HS.unseal (sz := 1) rfl
       replace HS := HS.freezeN 1 (p := (rF kI t1251.f0 I1258)) rfl (fun _ hP_ _ => RepsB.reps hP_)
       dsimp only [List.eraseIdx] at HS
       replace HS := HS.front 1 rfl
       dsimp only [List.eraseIdx] at HS
       obtain ⟨I1260, bl1261, HS⟩ := HS.unseal (sz := 1) rfl
       refine ⟨⟨HS.nowO, HS.nowN.2, ⟨(HS.mu 31 rfl), (HS.mu 32 rfl), trivial⟩⟩, _, rfl, ?_⟩
       exact by (
       clear hb
       obtain ⟨t1262, ha1263, H⟩ := bind_some H
       refine dc_ 3 (w_none rfl) func61 (laws_toTable.runs k (⟨x1.f0, x1.f1⟩ : S85) A1_0 c1_0 t1262 _ (HS.getO 2 rfl) hc1_0 ha1263) ?_
       clear ha1263
       rintro _ w1264 ⟨v1265, bl1266, rfl, hO_, hb⟩
       replace HS := HS.got hb hO_
       dsimp only [List.cons_append, List.nil_append] at HS
       clear hO_
       exact by (
       obtain ⟨I1267, bl1268, HS⟩ := HS.unseal (sz := 1) rfl
       replace HS := HS.freezeN 1 (p := (rF kI t1262.f0 I1267)) rfl (fun _ hP_ _ => RepsB.reps hP_)
       dsimp only [List.eraseIdx] at HS
       refine ⟨⟨HS.nowO, HS.nowN.2.2, ⟨(HS.mu 32 rfl), (HS.mu 33 rfl), trivial⟩⟩, _, rfl, ?_⟩
       clear hb
       obtain ⟨A1269, c1270, rfl⟩ := row_slice (HS.mu 3 rfl)
       obtain ⟨A1271, c1272, rfl⟩ := row_slice (HS.mu 1 rfl)
       obtain ⟨A1273, c1274, rfl⟩ := row_slice (HS.mu 0 rfl)
       exact by (
       obtain ⟨t1275, ha1276, H⟩ := bind_some H
       refine dc_ 4 (w_none rfl) func54 (impl_ForkTable.runs k t1251 A1269 c1270 A1271 c1272 t1262 A1273 c1274 t1275.1 t1275.2.1 t1275.2.2 _ (row_C rfl (HS.mu 3 rfl) (HS.getN 1 rfl)) (row_le (HS.mu 3 rfl)) (row_C rfl (HS.mu 1 rfl) (HS.elsK 2 rfl)) (row_le (HS.mu 1 rfl)) (row_C rfl (HS.mu 0 rfl) (HS.getN 0 rfl)) (row_le (HS.mu 0 rfl)) ha1276) ?_
       clear ha1276
       rintro _ w1277 ⟨v1278, bl1279, v1280, bl1281, v1282, bl1283, rfl, hO_, hb⟩
       replace HS := HS.got hb hO_
       dsimp only [List.cons_append, List.nil_append] at HS
       clear hO_
       obtain ⟨I1284, bl1285, HS⟩ := HS.unseal (sz := 1) rfl
       exact by (
       replace HS := HS.freezeN 1 (p := (rF kI t1275.1.f0 I1284)) rfl (fun _ hP_ _ => RepsB.reps hP_)
       dsimp only [List.eraseIdx] at HS
       replace HS := HS.front 1 rfl
       dsimp only [List.eraseIdx] at HS
       obtain ⟨I1286, bl1287, HS⟩ := HS.unseal (sz := 1) rfl
       replace HS := HS.front 3 rfl
       dsimp only [List.eraseIdx] at HS
       obtain ⟨I1288, bl1289, HS⟩ := HS.unseal (sz := 1) rfl
       exact by (
       replace HS := HS.freezeN 1 (p := (rF kI t1275.2.1.f0 I1288)) rfl (fun _ hP_ _ => RepsB.reps hP_)
       dsimp only [List.eraseIdx] at HS
       refine ⟨⟨HS.nowO, HS.nowN.2.2.2.2, ⟨(HS.mu 36 rfl), (HS.mu 37 rfl), trivial⟩⟩, _, rfl, ?_⟩
       clear hb
       refine dm_ 5 ?_
       refine dp_ 6 (fun _ => Run.extract rfl rfl rfl) ?_
       refine dp_ 7 (fun _ => Run.extract rfl rfl rfl) ?_
       refine dp_ 8 (fun _ => Run.extract rfl rfl rfl) ?_
       exact useWD X839 ⟨b1153, b1249, A1269, t1251, c1270, A1271, c1272, A1273, t1262, c1274, v1278, v1280, v1282, t1275, I1288, I1286, bl1287, I1284, I1267, I1260, bl1261, I1258, rfl, H, (St.sel HS [8, 9, 0, 1, 2, 3, 4, 5, 6, 7, 10, 11, 12, 13, 14, 15, 16, 17, 18, 19, 20, 21, 22, 23, 24, 25, 26, 27, 28, 29, 30, 31, 32, 33, 34, 35, 36, 37])⟩ ))))))))
   · have HT_ := True.intro
     exact by (
     refine WDo.alloc (v := .agg #[sn, vi 0]) (cs := #[sn, vi 0]) 10 (w_none rfl) HS rfl (by kernel_rfl) rfl (fun b1290 w1291 hb1290 HS => ?_)
     refine ⟨⟨HS.nowO, HS.nowN, ⟨(HS.mu 27 rfl), (HS.mu 28 rfl), trivial⟩⟩, ?_⟩
     refine two__ 1 9 ?_ ?_
     · have HT_ := True.intro
       obtain ⟨t1292, ha1293, H⟩ := bind_some H
       refine dco_ 1 (w_none rfl) func60 (laws_toStore.runs k (⟨x0.f0, x0.f1⟩ : S84) A0_0 c0_0 A0_1 c0_1 t1292 _ (HS.getO 0 rfl) hc0_0 (HS.getO 1 rfl) hc0_1 ha1293) ?_
       clear ha1293
       rintro _ w1294 ⟨v1295, bl1296, v1297, bl1298, rfl, hO_, hb⟩
       exact by (
       replace HS := HS.got hb hO_
       dsimp only [List.cons_append, List.nil_append] at HS
       clear hO_
       obtain ⟨I1299, bl1300, HS⟩ := HS.unseal (sz := 1) rfl
       replace HS := HS.freezeN 1 (p := (rF kI t1292.f0 I1299)) rfl (fun _ hP_ _ => RepsB.reps hP_)
       dsimp only [List.eraseIdx] at HS
       replace HS := HS.front 1 rfl
       dsimp only [List.eraseIdx] at HS
       exact by (
       obtain ⟨I1301, bl1302, HS⟩ := HS.unseal (sz := 1) rfl
       refine ⟨⟨HS.nowO, HS.nowN.2, ⟨(HS.mu 30 rfl), (HS.mu 31 rfl), trivial⟩⟩, _, rfl, ?_⟩
       clear hb
       refine two__ 3 9 ?_ ?_
       · have HT_ := True.intro
         obtain ⟨t1303, ha1304, H⟩ := bind_some H
         refine dco_ 3 (w_none rfl) func61 (laws_toTable.runs k (⟨x1.f0, x1.f1⟩ : S85) A1_0 c1_0 t1303 _ (HS.getO 2 rfl) hc1_0 ha1304) ?_
         clear ha1304
         exact by (
         rintro _ w1305 ⟨v1306, bl1307, rfl, hO_, hb⟩
         replace HS := HS.got hb hO_
         dsimp only [List.cons_append, List.nil_append] at HS
         clear hO_
         obtain ⟨I1308, bl1309, HS⟩ := HS.unseal (sz := 1) rfl
         replace HS := HS.freezeN 1 (p := (rF kI t1303.f0 I1308)) rfl (fun _ hP_ _ => RepsB.reps hP_)
         dsimp only [List.eraseIdx] at HS
         refine ⟨⟨HS.nowO, HS.nowN.2.2, ⟨(HS.mu 31 rfl), (HS.mu 32 rfl), trivial⟩⟩, _, rfl, ?_⟩
         exact by (
         clear hb
         refine two__ 4 9 ?_ ?_
         · have HT_ := True.intro
           obtain ⟨A1310, c1311, rfl⟩ := row_slice (HS.mu 3 rfl)
           obtain ⟨A1312, c1313, rfl⟩ := row_slice (HS.mu 1 rfl)
           obtain ⟨A1314, c1315, rfl⟩ := row_slice (HS.mu 0 rfl)
           obtain ⟨t1316, ha1317, H⟩ := bind_some H
           refine dco_ 4 (w_none rfl) func54 (impl_ForkTable.runs k t1292 A1310 c1311 A1312 c1313 t1303 A1314 c1315 t1316.1 t1316.2.1 t1316.2.2 _ (row_C rfl (HS.mu 3 rfl) (HS.getN 1 rfl)) (row_le (HS.mu 3 rfl)) (row_C rfl (HS.mu 1 rfl) (HS.elsK 2 rfl)) (row_le (HS.mu 1 rfl)) (row_C rfl (HS.mu 0 rfl) (HS.getN 0 rfl)) (row_le (HS.mu 0 rfl)) ha1317) ?_
           exact by (
           clear ha1317
           rintro _ w1318 ⟨v1319, bl1320, v1321, bl1322, v1323, bl1324, rfl, hO_, hb⟩
           replace HS := HS.got hb hO_
           dsimp only [List.cons_append, List.nil_append] at HS
           clear hO_
           obtain ⟨I1325, bl1326, HS⟩ := HS.unseal (sz := 1) rfl
           replace HS := HS.freezeN 1 (p := (rF kI t1316.1.f0 I1325)) rfl (fun _ hP_ _ => RepsB.reps hP_)
           dsimp only [List.eraseIdx] at HS
           exact by (
           replace HS := HS.front 1 rfl
           dsimp only [List.eraseIdx] at HS
           obtain ⟨I1327, bl1328, HS⟩ := HS.unseal (sz := 1) rfl
           replace HS := HS.front 3 rfl
           dsimp only [List.eraseIdx] at HS
           obtain ⟨I1329, bl1330, HS⟩ := HS.unseal (sz := 1) rfl
           replace HS := HS.freezeN 1 (p := (rF kI t1316.2.1.f0 I1329)) rfl (fun _ hP_ _ => RepsB.reps hP_)
           dsimp only [List.eraseIdx] at HS
           exact by (
           refine ⟨⟨HS.nowO, HS.nowN.2.2.2.2, ⟨(HS.mu 35 rfl), (HS.mu 36 rfl), trivial⟩⟩, _, rfl, ?_⟩
           clear hb
           refine dm_ 5 ?_
           refine dp_ 6 (fun _ => Run.extract rfl rfl rfl) ?_
           refine dp_ 7 (fun _ => Run.extract rfl rfl rfl) ?_
           refine dp_ 8 (fun _ => Run.extract rfl rfl rfl) ?_
           refine WD.alloc (v := .agg #[sn, sn]) (cs := #[sn, sn]) 9 (w_none rfl) HS rfl (by kernel_rfl) rfl (fun b1331 w1332 hb1331 HS => ?_)
           refine ⟨⟨HS.nowO, HS.nowN.2.2.2.2, ⟨(HS.mu 36 rfl), (HS.mu 37 rfl), trivial⟩⟩, ?_⟩
           exact useWD X839 ⟨b1331, b1290, A1310, t1292, c1311, A1312, c1313, A1314, t1303, c1315, v1319, v1321, v1323, t1316, I1329, I1327, bl1328, I1325, I1308, I1301, bl1302, I1299, rfl, H, (St.sel HS [9, 0, 1, 2, 3, 4, 5, 6, 7, 8, 10, 11, 12, 13, 14, 15, 16, 17, 18, 19, 20, 21, 22, 23, 24, 25, 26, 27, 28, 29, 30, 31, 32, 33, 34, 35, 36, 37])⟩ )))
         · have HT_ := True.intro
           exact by (
           refine WDo.alloc (v := .agg #[sn, sn]) (cs := #[sn, sn]) 9 (w_none rfl) HS rfl (by kernel_rfl) rfl (fun b1333 w1334 hb1333 HS => ?_)
           refine ⟨⟨HS.nowO, HS.nowN.2.2, ⟨(HS.mu 32 rfl), (HS.mu 33 rfl), trivial⟩⟩, ?_⟩
           obtain ⟨A1335, c1336, rfl⟩ := row_slice (HS.mu 4 rfl)
           obtain ⟨A1337, c1338, rfl⟩ := row_slice (HS.mu 2 rfl)
           obtain ⟨A1339, c1340, rfl⟩ := row_slice (HS.mu 1 rfl)
           obtain ⟨t1341, ha1342, H⟩ := bind_some H
           refine dc_ 4 (w_none rfl) func54 (impl_ForkTable.runs k t1292 A1335 c1336 A1337 c1338 t1303 A1339 c1340 t1341.1 t1341.2.1 t1341.2.2 _ (row_C rfl (HS.mu 4 rfl) (HS.getN 1 rfl)) (row_le (HS.mu 4 rfl)) (row_C rfl (HS.mu 2 rfl) (HS.elsK 3 rfl)) (row_le (HS.mu 2 rfl)) (row_C rfl (HS.mu 1 rfl) (HS.getN 0 rfl)) (row_le (HS.mu 1 rfl)) ha1342) ?_
           clear ha1342
           exact by (
           rintro _ w1343 ⟨v1344, bl1345, v1346, bl1347, v1348, bl1349, rfl, hO_, hb⟩
           replace HS := HS.got hb hO_
           dsimp only [List.cons_append, List.nil_append] at HS
           clear hO_
           obtain ⟨I1350, bl1351, HS⟩ := HS.unseal (sz := 1) rfl
           replace HS := HS.freezeN 1 (p := (rF kI t1341.1.f0 I1350)) rfl (fun _ hP_ _ => RepsB.reps hP_)
           dsimp only [List.eraseIdx] at HS
           replace HS := HS.front 1 rfl
           exact by (
           dsimp only [List.eraseIdx] at HS
           obtain ⟨I1352, bl1353, HS⟩ := HS.unseal (sz := 1) rfl
           replace HS := HS.front 3 rfl
           dsimp only [List.eraseIdx] at HS
           obtain ⟨I1354, bl1355, HS⟩ := HS.unseal (sz := 1) rfl
           replace HS := HS.freezeN 1 (p := (rF kI t1341.2.1.f0 I1354)) rfl (fun _ hP_ _ => RepsB.reps hP_)
           dsimp only [List.eraseIdx] at HS
           refine ⟨⟨HS.nowO, HS.nowN.2.2.2.2, ⟨(HS.mu 36 rfl), (HS.mu 37 rfl), trivial⟩⟩, _, rfl, ?_⟩
           exact by (
           clear hb
           refine dm_ 5 ?_
           refine dp_ 6 (fun _ => Run.extract rfl rfl rfl) ?_
           refine dp_ 7 (fun _ => Run.extract rfl rfl rfl) ?_
           refine dp_ 8 (fun _ => Run.extract rfl rfl rfl) ?_
           exact useWD X839 ⟨b1333, b1290, A1335, t1292, c1336, A1337, c1338, A1339, t1303, c1340, v1344, v1346, v1348, t1341, I1354, I1352, bl1353, I1350, I1308, I1301, bl1302, I1299, rfl, H, (St.sel HS [9, 4, 0, 1, 2, 3, 5, 6, 7, 8, 10, 11, 12, 13, 14, 15, 16, 17, 18, 19, 20, 21, 22, 23, 24, 25, 26, 27, 28, 29, 30, 31, 32, 33, 34, 35, 36, 37])⟩ ))))))
       · have HT_ := True.intro
         refine WDo.alloc (v := .agg #[sn, sn]) (cs := #[sn, sn]) 9 (w_none rfl) HS rfl (by kernel_rfl) rfl (fun b1356 w1357 hb1356 HS => ?_)
         exact by (
         refine ⟨⟨HS.nowO, HS.nowN.2, ⟨(HS.mu 31 rfl), (HS.mu 32 rfl), trivial⟩⟩, ?_⟩
         obtain ⟨t1358, ha1359, H⟩ := bind_some H
         refine dc_ 3 (w_none rfl) func61 (laws_toTable.runs k (⟨x1.f0, x1.f1⟩ : S85) A1_0 c1_0 t1358 _ (HS.getO 2 rfl) hc1_0 ha1359) ?_
         clear ha1359
         rintro _ w1360 ⟨v1361, bl1362, rfl, hO_, hb⟩
         replace HS := HS.got hb hO_
         dsimp only [List.cons_append, List.nil_append] at HS
         clear hO_
         exact by (
         obtain ⟨I1363, bl1364, HS⟩ := HS.unseal (sz := 1) rfl
         replace HS := HS.freezeN 1 (p := (rF kI t1358.f0 I1363)) rfl (fun _ hP_ _ => RepsB.reps hP_)
         dsimp only [List.eraseIdx] at HS
         refine ⟨⟨HS.nowO, HS.nowN.2.2, ⟨(HS.mu 32 rfl), (HS.mu 33 rfl), trivial⟩⟩, _, rfl, ?_⟩
         clear hb
         obtain ⟨A1365, c1366, rfl⟩ := row_slice (HS.mu 4 rfl)
         obtain ⟨A1367, c1368, rfl⟩ := row_slice (HS.mu 2 rfl)
         obtain ⟨A1369, c1370, rfl⟩ := row_slice (HS.mu 0 rfl)
         exact by (
         obtain ⟨t1371, ha1372, H⟩ := bind_some H
         refine dc_ 4 (w_none rfl) func54 (impl_ForkTable.runs k t1292 A1365 c1366 A1367 c1368 t1358 A1369 c1370 t1371.1 t1371.2.1 t1371.2.2 _ (row_C rfl (HS.mu 4 rfl) (HS.getN 1 rfl)) (row_le (HS.mu 4 rfl)) (row_C rfl (HS.mu 2 rfl) (HS.elsK 3 rfl)) (row_le (HS.mu 2 rfl)) (row_C rfl (HS.mu 0 rfl) (HS.getN 0 rfl)) (row_le (HS.mu 0 rfl)) ha1372) ?_
         clear ha1372
         rintro _ w1373 ⟨v1374, bl1375, v1376, bl1377, v1378, bl1379, rfl, hO_, hb⟩
         replace HS := HS.got hb hO_
         dsimp only [List.cons_append, List.nil_append] at HS
         clear hO_
         obtain ⟨I1380, bl1381, HS⟩ := HS.unseal (sz := 1) rfl
         exact by (
         replace HS := HS.freezeN 1 (p := (rF kI t1371.1.f0 I1380)) rfl (fun _ hP_ _ => RepsB.reps hP_)
         dsimp only [List.eraseIdx] at HS
         replace HS := HS.front 1 rfl
         dsimp only [List.eraseIdx] at HS
         obtain ⟨I1382, bl1383, HS⟩ := HS.unseal (sz := 1) rfl
         replace HS := HS.front 3 rfl
         dsimp only [List.eraseIdx] at HS
         obtain ⟨I1384, bl1385, HS⟩ := HS.unseal (sz := 1) rfl
         exact by (
         replace HS := HS.freezeN 1 (p := (rF kI t1371.2.1.f0 I1384)) rfl (fun _ hP_ _ => RepsB.reps hP_)
         dsimp only [List.eraseIdx] at HS
         refine ⟨⟨HS.nowO, HS.nowN.2.2.2.2, ⟨(HS.mu 36 rfl), (HS.mu 37 rfl), trivial⟩⟩, _, rfl, ?_⟩
         clear hb
         refine dm_ 5 ?_
         refine dp_ 6 (fun _ => Run.extract rfl rfl rfl) ?_
         refine dp_ 7 (fun _ => Run.extract rfl rfl rfl) ?_
         refine dp_ 8 (fun _ => Run.extract rfl rfl rfl) ?_
         exact useWD X839 ⟨b1356, b1290, A1365, t1292, c1366, A1367, c1368, A1369, t1358, c1370, v1374, v1376, v1378, t1371, I1384, I1382, bl1383, I1380, I1363, I1301, bl1302, I1299, rfl, H, (St.sel HS [9, 5, 0, 1, 2, 3, 4, 6, 7, 8, 10, 11, 12, 13, 14, 15, 16, 17, 18, 19, 20, 21, 22, 23, 24, 25, 26, 27, 28, 29, 30, 31, 32, 33, 34, 35, 36, 37])⟩ )))))))
     · have HT_ := True.intro
       exact by (
       refine WDo.alloc (v := .agg #[sn, sn]) (cs := #[sn, sn]) 9 (w_none rfl) HS rfl (by kernel_rfl) rfl (fun b1386 w1387 hb1386 HS => ?_)
       refine ⟨⟨HS.nowO, HS.nowN, ⟨(HS.mu 28 rfl), (HS.mu 29 rfl), trivial⟩⟩, ?_⟩
       obtain ⟨t1388, ha1389, H⟩ := bind_some H
       refine dc_ 1 (w_none rfl) func60 (laws_toStore.runs k (⟨x0.f0, x0.f1⟩ : S84) A0_0 c0_0 A0_1 c0_1 t1388 _ (HS.getO 0 rfl) hc0_0 (HS.getO 1 rfl) hc0_1 ha1389) ?_
       clear ha1389
       rintro _ w1390 ⟨v1391, bl1392, v1393, bl1394, rfl, hO_, hb⟩
       replace HS := HS.got hb hO_
       dsimp only [List.cons_append, List.nil_append] at HS
       exact by (
       clear hO_
       obtain ⟨I1395, bl1396, HS⟩ := HS.unseal (sz := 1) rfl
       replace HS := HS.freezeN 1 (p := (rF kI t1388.f0 I1395)) rfl (fun _ hP_ _ => RepsB.reps hP_)
       dsimp only [List.eraseIdx] at HS
       replace HS := HS.front 1 rfl
       dsimp only [List.eraseIdx] at HS
       obtain ⟨I1397, bl1398, HS⟩ := HS.unseal (sz := 1) rfl
       refine ⟨⟨HS.nowO, HS.nowN.2, ⟨(HS.mu 31 rfl), (HS.mu 32 rfl), trivial⟩⟩, _, rfl, ?_⟩
       exact by (
       clear hb
       obtain ⟨t1399, ha1400, H⟩ := bind_some H
       refine dc_ 3 (w_none rfl) func61 (laws_toTable.runs k (⟨x1.f0, x1.f1⟩ : S85) A1_0 c1_0 t1399 _ (HS.getO 2 rfl) hc1_0 ha1400) ?_
       clear ha1400
       rintro _ w1401 ⟨v1402, bl1403, rfl, hO_, hb⟩
       replace HS := HS.got hb hO_
       dsimp only [List.cons_append, List.nil_append] at HS
       clear hO_
       exact by (
       obtain ⟨I1404, bl1405, HS⟩ := HS.unseal (sz := 1) rfl
       replace HS := HS.freezeN 1 (p := (rF kI t1399.f0 I1404)) rfl (fun _ hP_ _ => RepsB.reps hP_)
       dsimp only [List.eraseIdx] at HS
       refine ⟨⟨HS.nowO, HS.nowN.2.2, ⟨(HS.mu 32 rfl), (HS.mu 33 rfl), trivial⟩⟩, _, rfl, ?_⟩
       clear hb
       obtain ⟨A1406, c1407, rfl⟩ := row_slice (HS.mu 3 rfl)
       obtain ⟨A1408, c1409, rfl⟩ := row_slice (HS.mu 1 rfl)
       obtain ⟨A1410, c1411, rfl⟩ := row_slice (HS.mu 0 rfl)
       exact by (
       obtain ⟨t1412, ha1413, H⟩ := bind_some H
       refine dc_ 4 (w_none rfl) func54 (impl_ForkTable.runs k t1388 A1406 c1407 A1408 c1409 t1399 A1410 c1411 t1412.1 t1412.2.1 t1412.2.2 _ (row_C rfl (HS.mu 3 rfl) (HS.getN 1 rfl)) (row_le (HS.mu 3 rfl)) (row_C rfl (HS.mu 1 rfl) (HS.elsK 2 rfl)) (row_le (HS.mu 1 rfl)) (row_C rfl (HS.mu 0 rfl) (HS.getN 0 rfl)) (row_le (HS.mu 0 rfl)) ha1413) ?_
       clear ha1413
       rintro _ w1414 ⟨v1415, bl1416, v1417, bl1418, v1419, bl1420, rfl, hO_, hb⟩
       replace HS := HS.got hb hO_
       dsimp only [List.cons_append, List.nil_append] at HS
       clear hO_
       obtain ⟨I1421, bl1422, HS⟩ := HS.unseal (sz := 1) rfl
       exact by (
       replace HS := HS.freezeN 1 (p := (rF kI t1412.1.f0 I1421)) rfl (fun _ hP_ _ => RepsB.reps hP_)
       dsimp only [List.eraseIdx] at HS
       replace HS := HS.front 1 rfl
       dsimp only [List.eraseIdx] at HS
       obtain ⟨I1423, bl1424, HS⟩ := HS.unseal (sz := 1) rfl
       replace HS := HS.front 3 rfl
       dsimp only [List.eraseIdx] at HS
       obtain ⟨I1425, bl1426, HS⟩ := HS.unseal (sz := 1) rfl
       exact by (
       replace HS := HS.freezeN 1 (p := (rF kI t1412.2.1.f0 I1425)) rfl (fun _ hP_ _ => RepsB.reps hP_)
       dsimp only [List.eraseIdx] at HS
       refine ⟨⟨HS.nowO, HS.nowN.2.2.2.2, ⟨(HS.mu 36 rfl), (HS.mu 37 rfl), trivial⟩⟩, _, rfl, ?_⟩
       clear hb
       refine dm_ 5 ?_
       refine dp_ 6 (fun _ => Run.extract rfl rfl rfl) ?_
       refine dp_ 7 (fun _ => Run.extract rfl rfl rfl) ?_
       refine dp_ 8 (fun _ => Run.extract rfl rfl rfl) ?_
       exact useWD X839 ⟨b1386, b1290, A1406, t1388, c1407, A1408, c1409, A1410, t1399, c1411, v1415, v1417, v1419, t1412, I1425, I1423, bl1424, I1421, I1404, I1397, bl1398, I1395, rfl, H, (St.sel HS [9, 8, 0, 1, 2, 3, 4, 5, 6, 7, 10, 11, 12, 13, 14, 15, 16, 17, 18, 19, 20, 21, 22, 23, 24, 25, 26, 27, 28, 29, 30, 31, 32, 33, 34, 35, 36, 37])⟩ ))))))))))))))))))))))))))))))))))))))))))))))))))))))))))))))))))))))))))
 exact by (
 refine three__ 1 9 10 ?_ ?_ ?_
 · have HT_ := True.intro
   obtain ⟨t26, ha27, H⟩ := bind_some H
   refine dco_ 1 (w_none rfl) func60 (laws_toStore.runs k (⟨x0.f0, x0.f1⟩ : S84) A0_0 c0_0 A0_1 c0_1 t26 _ (HS.getO 0 rfl) hc0_0 (HS.getO 1 rfl) hc0_1 ha27) ?_
   clear ha27
   rintro _ w28 ⟨v29, bl30, v31, bl32, rfl, hO_, hb⟩
   replace HS := HS.got hb hO_
   dsimp only [List.cons_append, List.nil_append] at HS
   exact by (
   clear hO_
   obtain ⟨I33, bl34, HS⟩ := HS.unseal (sz := 1) rfl
   replace HS := HS.freezeN 1 (p := (rF kI t26.f0 I33)) rfl (fun _ hP_ _ => RepsB.reps hP_)
   dsimp only [List.eraseIdx] at HS
   replace HS := HS.front 1 rfl
   dsimp only [List.eraseIdx] at HS
   obtain ⟨I35, bl36, HS⟩ := HS.unseal (sz := 1) rfl
   refine ⟨⟨HS.nowO, HS.nowN.2, ⟨(HS.mu 3 rfl), (HS.mu 4 rfl), trivial⟩⟩, _, rfl, ?_⟩
   exact by (
   clear hb
   refine three__ 3 9 10 ?_ ?_ ?_
   · have HT_ := True.intro
     obtain ⟨t37, ha38, H⟩ := bind_some H
     refine dco_ 3 (w_none rfl) func61 (laws_toTable.runs k (⟨x1.f0, x1.f1⟩ : S85) A1_0 c1_0 t37 _ (HS.getO 2 rfl) hc1_0 ha38) ?_
     clear ha38
     rintro _ w39 ⟨v40, bl41, rfl, hO_, hb⟩
     replace HS := HS.got hb hO_
     exact by (
     dsimp only [List.cons_append, List.nil_append] at HS
     clear hO_
     obtain ⟨I42, bl43, HS⟩ := HS.unseal (sz := 1) rfl
     replace HS := HS.freezeN 1 (p := (rF kI t37.f0 I42)) rfl (fun _ hP_ _ => RepsB.reps hP_)
     dsimp only [List.eraseIdx] at HS
     refine ⟨⟨HS.nowO, HS.nowN.2.2, ⟨(HS.mu 4 rfl), (HS.mu 5 rfl), trivial⟩⟩, _, rfl, ?_⟩
     clear hb
     refine three__ 4 9 10 ?_ ?_ ?_
     · have HT_ := True.intro
       exact by (
       obtain ⟨A44, c45, rfl⟩ := row_slice (HS.mu 3 rfl)
       obtain ⟨A46, c47, rfl⟩ := row_slice (HS.mu 1 rfl)
       obtain ⟨A48, c49, rfl⟩ := row_slice (HS.mu 0 rfl)
       obtain ⟨t50, ha51, H⟩ := bind_some H
       refine dco_ 4 (w_none rfl) func71 (spec_ForkTable.runs k t26 A44 c45 A46 c47 t37 A48 c49 t50.1 t50.2.1 t50.2.2 _ (row_C rfl (HS.mu 3 rfl) (HS.getN 1 rfl)) (row_le (HS.mu 3 rfl)) (row_C rfl (HS.mu 1 rfl) (HS.elsK 2 rfl)) (row_le (HS.mu 1 rfl)) (row_C rfl (HS.mu 0 rfl) (HS.getN 0 rfl)) (row_le (HS.mu 0 rfl)) ha51) ?_
       clear ha51
       rintro _ w52 ⟨A53, c54, A57, c58, A61, c62, rfl, le55, hf56, le59, hf60, le63, hf64, hb⟩
       replace HS := HS.newNs hb (foot_cons hf56 (foot_cons hf60 (foot_cons hf64 foot_nil)))
       exact by (
       refine ⟨⟨HS.nowO, HS.nowN.2.2.2.2.2, ⟨(HS.mu 4 rfl), (HS.mu 5 rfl), trivial⟩⟩, _, rfl, ?_⟩
       clear hb
       refine dm_ 5 ?_
       refine dp_ 6 (fun _ => Run.extract rfl rfl rfl) ?_
       refine dp_ 7 (fun _ => Run.extract rfl rfl rfl) ?_
       refine dp_ 8 (fun _ => Run.extract rfl rfl rfl) ?_
       refine two__ 9 10 ?_ ?_
       · have HT_ := True.intro
         exact by (
         refine WDo.alloc (v := .agg #[sn, sn]) (cs := #[sn, sn]) 9 (w_none rfl) HS rfl (by kernel_rfl) rfl (fun b65 w66 hb65 HS => ?_)
         refine ⟨⟨HS.nowO, HS.nowN.2.2.2.2.2, ⟨(HS.mu 5 rfl), (HS.mu 6 rfl), trivial⟩⟩, ?_⟩
         refine WD.alloc (v := .agg #[sn, vi 0]) (cs := #[sn, vi 0]) 10 (w_none rfl) HS rfl (by kernel_rfl) rfl (fun b67 w68 hb67 HS => ?_)
         refine ⟨⟨HS.nowO, HS.nowN.2.2.2.2.2, ⟨(HS.mu 6 rfl), (HS.mu 7 rfl), trivial⟩⟩, ?_⟩
         exact useWD X25 ⟨b65, b67, A44, t26, c45, A46, c47, A48, t37, c49, A53, t50, c54, A57, c58, A61, c62, I42, I35, bl36, I33, rfl, H, le55, le59, le63, HS⟩ )
       · have HT_ := True.intro
         refine WDo.alloc (v := .agg #[sn, vi 0]) (cs := #[sn, vi 0]) 10 (w_none rfl) HS rfl (by kernel_rfl) rfl (fun b69 w70 hb69 HS => ?_)
         refine ⟨⟨HS.nowO, HS.nowN.2.2.2.2.2, ⟨(HS.mu 5 rfl), (HS.mu 6 rfl), trivial⟩⟩, ?_⟩
         exact by (
         refine WD.alloc (v := .agg #[sn, sn]) (cs := #[sn, sn]) 9 (w_none rfl) HS rfl (by kernel_rfl) rfl (fun b71 w72 hb71 HS => ?_)
         refine ⟨⟨HS.nowO, HS.nowN.2.2.2.2.2, ⟨(HS.mu 6 rfl), (HS.mu 7 rfl), trivial⟩⟩, ?_⟩
         exact useWD X25 ⟨b71, b69, A44, t26, c45, A46, c47, A48, t37, c49, A53, t50, c54, A57, c58, A61, c62, I42, I35, bl36, I33, rfl, H, le55, le59, le63, (St.sel HS [1, 0, 2, 3, 4, 5, 6, 7])⟩ )))
     · have HT_ := True.intro
       refine WDo.alloc (v := .agg #[sn, sn]) (cs := #[sn, sn]) 9 (w_none rfl) HS rfl (by kernel_rfl) rfl (fun b73 w74 hb73 HS => ?_)
       refine ⟨⟨HS.nowO, HS.nowN.2.2, ⟨(HS.mu 5 rfl), (HS.mu 6 rfl), trivial⟩⟩, ?_⟩
       refine two__ 4 10 ?_ ?_
       · have HT_ := True.intro
         exact by (
         obtain ⟨A75, c76, rfl⟩ := row_slice (HS.mu 4 rfl)
         obtain ⟨A77, c78, rfl⟩ := row_slice (HS.mu 2 rfl)
         obtain ⟨A79, c80, rfl⟩ := row_slice (HS.mu 1 rfl)
         obtain ⟨t81, ha82, H⟩ := bind_some H
         refine dco_ 4 (w_none rfl) func71 (spec_ForkTable.runs k t26 A75 c76 A77 c78 t37 A79 c80 t81.1 t81.2.1 t81.2.2 _ (row_C rfl (HS.mu 4 rfl) (HS.getN 1 rfl)) (row_le (HS.mu 4 rfl)) (row_C rfl (HS.mu 2 rfl) (HS.elsK 3 rfl)) (row_le (HS.mu 2 rfl)) (row_C rfl (HS.mu 1 rfl) (HS.getN 0 rfl)) (row_le (HS.mu 1 rfl)) ha82) ?_
         clear ha82
         rintro _ w83 ⟨A84, c85, A88, c89, A92, c93, rfl, le86, hf87, le90, hf91, le94, hf95, hb⟩
         replace HS := HS.newNs hb (foot_cons hf87 (foot_cons hf91 (foot_cons hf95 foot_nil)))
         exact by (
         refine ⟨⟨HS.nowO, HS.nowN.2.2.2.2.2, ⟨(HS.mu 5 rfl), (HS.mu 6 rfl), trivial⟩⟩, _, rfl, ?_⟩
         clear hb
         refine dm_ 5 ?_
         refine dp_ 6 (fun _ => Run.extract rfl rfl rfl) ?_
         refine dp_ 7 (fun _ => Run.extract rfl rfl rfl) ?_
         refine dp_ 8 (fun _ => Run.extract rfl rfl rfl) ?_
         refine WD.alloc (v := .agg #[sn, vi 0]) (cs := #[sn, vi 0]) 10 (w_none rfl) HS rfl (by kernel_rfl) rfl (fun b96 w97 hb96 HS => ?_)
         refine ⟨⟨HS.nowO, HS.nowN.2.2.2.2.2, ⟨(HS.mu 6 rfl), (HS.mu 7 rfl), trivial⟩⟩, ?_⟩
         exact useWD X25 ⟨b73, b96, A75, t26, c76, A77, c78, A79, t37, c80, A84, t81, c85, A88, c89, A92, c93, I42, I35, bl36, I33, rfl, H, le86, le90, le94, HS⟩ ))
       · have HT_ := True.intro
         exact by (
         refine WDo.alloc (v := .agg #[sn, vi 0]) (cs := #[sn, vi 0]) 10 (w_none rfl) HS rfl (by kernel_rfl) rfl (fun b98 w99 hb98 HS => ?_)
         refine ⟨⟨HS.nowO, HS.nowN.2.2, ⟨(HS.mu 6 rfl), (HS.mu 7 rfl), trivial⟩⟩, ?_⟩
         obtain ⟨A100, c101, rfl⟩ := row_slice (HS.mu 5 rfl)
         obtain ⟨A102, c103, rfl⟩ := row_slice (HS.mu 3 rfl)
         obtain ⟨A104, c105, rfl⟩ := row_slice (HS.mu 2 rfl)
         obtain ⟨t106, ha107, H⟩ := bind_some H
         refine dc_ 4 (w_none rfl) func71 (spec_ForkTable.runs k t26 A100 c101 A102 c103 t37 A104 c105 t106.1 t106.2.1 t106.2.2 _ (row_C rfl (HS.mu 5 rfl) (HS.getN 1 rfl)) (row_le (HS.mu 5 rfl)) (row_C rfl (HS.mu 3 rfl) (HS.elsK 4 rfl)) (row_le (HS.mu 3 rfl)) (row_C rfl (HS.mu 2 rfl) (HS.getN 0 rfl)) (row_le (HS.mu 2 rfl)) ha107) ?_
         clear ha107
         exact by (
         rintro _ w108 ⟨A109, c110, A113, c114, A117, c118, rfl, le111, hf112, le115, hf116, le119, hf120, hb⟩
         replace HS := HS.newNs hb (foot_cons hf112 (foot_cons hf116 (foot_cons hf120 foot_nil)))
         refine ⟨⟨HS.nowO, HS.nowN.2.2.2.2.2, ⟨(HS.mu 6 rfl), (HS.mu 7 rfl), trivial⟩⟩, _, rfl, ?_⟩
         clear hb
         refine dm_ 5 ?_
         refine dp_ 6 (fun _ => Run.extract rfl rfl rfl) ?_
         refine dp_ 7 (fun _ => Run.extract rfl rfl rfl) ?_
         refine dp_ 8 (fun _ => Run.extract rfl rfl rfl) ?_
         exact useWD X25 ⟨b73, b98, A100, t26, c101, A102, c103, A104, t37, c105, A109, t106, c110, A113, c114, A117, c118, I42, I35, bl36, I33, rfl, H, le111, le115, le119, HS⟩ ))
     · have HT_ := True.intro
       exact by (
       refine WDo.alloc (v := .agg #[sn, vi 0]) (cs := #[sn, vi 0]) 10 (w_none rfl) HS rfl (by kernel_rfl) rfl (fun b121 w122 hb121 HS => ?_)
       refine ⟨⟨HS.nowO, HS.nowN.2.2, ⟨(HS.mu 5 rfl), (HS.mu 6 rfl), trivial⟩⟩, ?_⟩
       refine two__ 4 9 ?_ ?_
       · have HT_ := True.intro
         obtain ⟨A123, c124, rfl⟩ := row_slice (HS.mu 4 rfl)
         obtain ⟨A125, c126, rfl⟩ := row_slice (HS.mu 2 rfl)
         obtain ⟨A127, c128, rfl⟩ := row_slice (HS.mu 1 rfl)
         obtain ⟨t129, ha130, H⟩ := bind_some H
         exact by (
         refine dco_ 4 (w_none rfl) func71 (spec_ForkTable.runs k t26 A123 c124 A125 c126 t37 A127 c128 t129.1 t129.2.1 t129.2.2 _ (row_C rfl (HS.mu 4 rfl) (HS.getN 1 rfl)) (row_le (HS.mu 4 rfl)) (row_C rfl (HS.mu 2 rfl) (HS.elsK 3 rfl)) (row_le (HS.mu 2 rfl)) (row_C rfl (HS.mu 1 rfl) (HS.getN 0 rfl)) (row_le (HS.mu 1 rfl)) ha130) ?_
         clear ha130
         rintro _ w131 ⟨A132, c133, A136, c137, A140, c141, rfl, le134, hf135, le138, hf139, le142, hf143, hb⟩
         replace HS := HS.newNs hb (foot_cons hf135 (foot_cons hf139 (foot_cons hf143 foot_nil)))
         refine ⟨⟨HS.nowO, HS.nowN.2.2.2.2.2, ⟨(HS.mu 5 rfl), (HS.mu 6 rfl), trivial⟩⟩, _, rfl, ?_⟩
         clear hb
         refine dm_ 5 ?_
         refine dp_ 6 (fun _ => Run.extract rfl rfl rfl) ?_
         exact by (
         refine dp_ 7 (fun _ => Run.extract rfl rfl rfl) ?_
         refine dp_ 8 (fun _ => Run.extract rfl rfl rfl) ?_
         refine WD.alloc (v := .agg #[sn, sn]) (cs := #[sn, sn]) 9 (w_none rfl) HS rfl (by kernel_rfl) rfl (fun b144 w145 hb144 HS => ?_)
         refine ⟨⟨HS.nowO, HS.nowN.2.2.2.2.2, ⟨(HS.mu 6 rfl), (HS.mu 7 rfl), trivial⟩⟩, ?_⟩
         exact useWD X25 ⟨b144, b121, A123, t26, c124, A125, c126, A127, t37, c128, A132, t129, c133, A136, c137, A140, c141, I42, I35, bl36, I33, rfl, H, le134, le138, le142, (St.sel HS [1, 0, 2, 3, 4, 5, 6, 7])⟩ ))
       · have HT_ := True.intro
         refine WDo.alloc (v := .agg #[sn, sn]) (cs := #[sn, sn]) 9 (w_none rfl) HS rfl (by kernel_rfl) rfl (fun b146 w147 hb146 HS => ?_)
         refine ⟨⟨HS.nowO, HS.nowN.2.2, ⟨(HS.mu 6 rfl), (HS.mu 7 rfl), trivial⟩⟩, ?_⟩
         exact by (
         obtain ⟨A148, c149, rfl⟩ := row_slice (HS.mu 5 rfl)
         obtain ⟨A150, c151, rfl⟩ := row_slice (HS.mu 3 rfl)
         obtain ⟨A152, c153, rfl⟩ := row_slice (HS.mu 2 rfl)
         obtain ⟨t154, ha155, H⟩ := bind_some H
         refine dc_ 4 (w_none rfl) func71 (spec_ForkTable.runs k t26 A148 c149 A150 c151 t37 A152 c153 t154.1 t154.2.1 t154.2.2 _ (row_C rfl (HS.mu 5 rfl) (HS.getN 1 rfl)) (row_le (HS.mu 5 rfl)) (row_C rfl (HS.mu 3 rfl) (HS.elsK 4 rfl)) (row_le (HS.mu 3 rfl)) (row_C rfl (HS.mu 2 rfl) (HS.getN 0 rfl)) (row_le (HS.mu 2 rfl)) ha155) ?_
         clear ha155
         rintro _ w156 ⟨A157, c158, A161, c162, A165, c166, rfl, le159, hf160, le163, hf164, le167, hf168, hb⟩
         replace HS := HS.newNs hb (foot_cons hf160 (foot_cons hf164 (foot_cons hf168 foot_nil)))
         exact by (
         refine ⟨⟨HS.nowO, HS.nowN.2.2.2.2.2, ⟨(HS.mu 6 rfl), (HS.mu 7 rfl), trivial⟩⟩, _, rfl, ?_⟩
         clear hb
         refine dm_ 5 ?_
         refine dp_ 6 (fun _ => Run.extract rfl rfl rfl) ?_
         refine dp_ 7 (fun _ => Run.extract rfl rfl rfl) ?_
         refine dp_ 8 (fun _ => Run.extract rfl rfl rfl) ?_
         exact useWD X25 ⟨b146, b121, A148, t26, c149, A150, c151, A152, t37, c153, A157, t154, c158, A161, c162, A165, c166, I42, I35, bl36, I33, rfl, H, le159, le163, le167, (St.sel HS [1, 0, 2, 3, 4, 5, 6, 7])⟩ ))))
   · have HT_ := True.intro
     exact by (
     refine WDo.alloc (v := .agg #[sn, sn]) (cs := #[sn, sn]) 9 (w_none rfl) HS rfl (by kernel_rfl) rfl (fun b169 w170 hb169 HS => ?_)
     refine ⟨⟨HS.nowO, HS.nowN.2, ⟨(HS.mu 4 rfl), (HS.mu 5 rfl), trivial⟩⟩, ?_⟩
     refine two__ 3 10 ?_ ?_
     · have HT_ := True.intro
       obtain ⟨t171, ha172, H⟩ := bind_some H
       refine dco_ 3 (w_none rfl) func61 (laws_toTable.runs k (⟨x1.f0, x1.f1⟩ : S85) A1_0 c1_0 t171 _ (HS.getO 2 rfl) hc1_0 ha172) ?_
       clear ha172
       rintro _ w173 ⟨v174, bl175, rfl, hO_, hb⟩
       exact by (
       replace HS := HS.got hb hO_
       dsimp only [List.cons_append, List.nil_append] at HS
       clear hO_
       obtain ⟨I176, bl177, HS⟩ := HS.unseal (sz := 1) rfl
       replace HS := HS.freezeN 1 (p := (rF kI t171.f0 I176)) rfl (fun _ hP_ _ => RepsB.reps hP_)
       dsimp only [List.eraseIdx] at HS
       refine ⟨⟨HS.nowO, HS.nowN.2.2, ⟨(HS.mu 5 rfl), (HS.mu 6 rfl), trivial⟩⟩, _, rfl, ?_⟩
       clear hb
       exact by (
       refine two__ 4 10 ?_ ?_
       · have HT_ := True.intro
         obtain ⟨A178, c179, rfl⟩ := row_slice (HS.mu 4 rfl)
         obtain ⟨A180, c181, rfl⟩ := row_slice (HS.mu 2 rfl)
         obtain ⟨A182, c183, rfl⟩ := row_slice (HS.mu 0 rfl)
         obtain ⟨t184, ha185, H⟩ := bind_some H
         refine dco_ 4 (w_none rfl) func71 (spec_ForkTable.runs k t26 A178 c179 A180 c181 t171 A182 c183 t184.1 t184.2.1 t184.2.2 _ (row_C rfl (HS.mu 4 rfl) (HS.getN 1 rfl)) (row_le (HS.mu 4 rfl)) (row_C rfl (HS.mu 2 rfl) (HS.elsK 3 rfl)) (row_le (HS.mu 2 rfl)) (row_C rfl (HS.mu 0 rfl) (HS.getN 0 rfl)) (row_le (HS.mu 0 rfl)) ha185) ?_
         clear ha185
         exact by (
         rintro _ w186 ⟨A187, c188, A191, c192, A195, c196, rfl, le189, hf190, le193, hf194, le197, hf198, hb⟩
         replace HS := HS.newNs hb (foot_cons hf190 (foot_cons hf194 (foot_cons hf198 foot_nil)))
         refine ⟨⟨HS.nowO, HS.nowN.2.2.2.2.2, ⟨(HS.mu 5 rfl), (HS.mu 6 rfl), trivial⟩⟩, _, rfl, ?_⟩
         clear hb
         refine dm_ 5 ?_
         refine dp_ 6 (fun _ => Run.extract rfl rfl rfl) ?_
         refine dp_ 7 (fun _ => Run.extract rfl rfl rfl) ?_
         refine dp_ 8 (fun _ => Run.extract rfl rfl rfl) ?_
         exact by (
         refine WD.alloc (v := .agg #[sn, vi 0]) (cs := #[sn, vi 0]) 10 (w_none rfl) HS rfl (by kernel_rfl) rfl (fun b199 w200 hb199 HS => ?_)
         refine ⟨⟨HS.nowO, HS.nowN.2.2.2.2.2, ⟨(HS.mu 6 rfl), (HS.mu 7 rfl), trivial⟩⟩, ?_⟩
         exact useWD X25 ⟨b169, b199, A178, t26, c179, A180, c181, A182, t171, c183, A187, t184, c188, A191, c192, A195, c196, I176, I35, bl36, I33, rfl, H, le189, le193, le197, (St.sel HS [0, 2, 1, 3, 4, 5, 6, 7])⟩ ))
       · have HT_ := True.intro
         refine WDo.alloc (v := .agg #[sn, vi 0]) (cs := #[sn, vi 0]) 10 (w_none rfl) HS rfl (by kernel_rfl) rfl (fun b201 w202 hb201 HS => ?_)
         refine ⟨⟨HS.nowO, HS.nowN.2.2, ⟨(HS.mu 6 rfl), (HS.mu 7 rfl), trivial⟩⟩, ?_⟩
         obtain ⟨A203, c204, rfl⟩ := row_slice (HS.mu 5 rfl)
         obtain ⟨A205, c206, rfl⟩ := row_slice (HS.mu 3 rfl)
         exact by (
         obtain ⟨A207, c208, rfl⟩ := row_slice (HS.mu 1 rfl)
         obtain ⟨t209, ha210, H⟩ := bind_some H
         refine dc_ 4 (w_none rfl) func71 (spec_ForkTable.runs k t26 A203 c204 A205 c206 t171 A207 c208 t209.1 t209.2.1 t209.2.2 _ (row_C rfl (HS.mu 5 rfl) (HS.getN 1 rfl)) (row_le (HS.mu 5 rfl)) (row_C rfl (HS.mu 3 rfl) (HS.elsK 4 rfl)) (row_le (HS.mu 3 rfl)) (row_C rfl (HS.mu 1 rfl) (HS.getN 0 rfl)) (row_le (HS.mu 1 rfl)) ha210) ?_
         clear ha210
         rintro _ w211 ⟨A212, c213, A216, c217, A220, c221, rfl, le214, hf215, le218, hf219, le222, hf223, hb⟩
         replace HS := HS.newNs hb (foot_cons hf215 (foot_cons hf219 (foot_cons hf223 foot_nil)))
         refine ⟨⟨HS.nowO, HS.nowN.2.2.2.2.2, ⟨(HS.mu 6 rfl), (HS.mu 7 rfl), trivial⟩⟩, _, rfl, ?_⟩
         clear hb
         exact by (
         refine dm_ 5 ?_
         refine dp_ 6 (fun _ => Run.extract rfl rfl rfl) ?_
         refine dp_ 7 (fun _ => Run.extract rfl rfl rfl) ?_
         refine dp_ 8 (fun _ => Run.extract rfl rfl rfl) ?_
         exact useWD X25 ⟨b169, b201, A203, t26, c204, A205, c206, A207, t171, c208, A212, t209, c213, A216, c217, A220, c221, I176, I35, bl36, I33, rfl, H, le214, le218, le222, (St.sel HS [0, 2, 1, 3, 4, 5, 6, 7])⟩ ))))
     · have HT_ := True.intro
       refine WDo.alloc (v := .agg #[sn, vi 0]) (cs := #[sn, vi 0]) 10 (w_none rfl) HS rfl (by kernel_rfl) rfl (fun b224 w225 hb224 HS => ?_)
       refine ⟨⟨HS.nowO, HS.nowN.2, ⟨(HS.mu 5 rfl), (HS.mu 6 rfl), trivial⟩⟩, ?_⟩
       exact by (
       obtain ⟨t226, ha227, H⟩ := bind_some H
       refine dc_ 3 (w_none rfl) func61 (laws_toTable.runs k (⟨x1.f0, x1.f1⟩ : S85) A1_0 c1_0 t226 _ (HS.getO 2 rfl) hc1_0 ha227) ?_
       clear ha227
       rintro _ w228 ⟨v229, bl230, rfl, hO_, hb⟩
       replace HS := HS.got hb hO_
       dsimp only [List.cons_append, List.nil_append] at HS
       clear hO_
       obtain ⟨I231, bl232, HS⟩ := HS.unseal (sz := 1) rfl
       exact by (
       replace HS := HS.freezeN 1 (p := (rF kI t226.f0 I231)) rfl (fun _ hP_ _ => RepsB.reps hP_)
       dsimp only [List.eraseIdx] at HS
       refine ⟨⟨HS.nowO, HS.nowN.2.2, ⟨(HS.mu 6 rfl), (HS.mu 7 rfl), trivial⟩⟩, _, rfl, ?_⟩
       clear hb
       obtain ⟨A233, c234, rfl⟩ := row_slice (HS.mu 5 rfl)
       obtain ⟨A235, c236, rfl⟩ := row_slice (HS.mu 3 rfl)
       obtain ⟨A237, c238, rfl⟩ := row_slice (HS.mu 0 rfl)
       obtain ⟨t239, ha240, H⟩ := bind_some H
       exact by (
       refine dc_ 4 (w_none rfl) func71 (spec_ForkTable.runs k t26 A233 c234 A235 c236 t226 A237 c238 t239.1 t239.2.1 t239.2.2 _ (row_C rfl (HS.mu 5 rfl) (HS.getN 1 rfl)) (row_le (HS.mu 5 rfl)) (row_C rfl (HS.mu 3 rfl) (HS.elsK 4 rfl)) (row_le (HS.mu 3 rfl)) (row_C rfl (HS.mu 0 rfl) (HS.getN 0 rfl)) (row_le (HS.mu 0 rfl)) ha240) ?_
       clear ha240
       rintro _ w241 ⟨A242, c243, A246, c247, A250, c251, rfl, le244, hf245, le248, hf249, le252, hf253, hb⟩
       replace HS := HS.newNs hb (foot_cons hf245 (foot_cons hf249 (foot_cons hf253 foot_nil)))
       refine ⟨⟨HS.nowO, HS.nowN.2.2.2.2.2, ⟨(HS.mu 6 rfl), (HS.mu 7 rfl), trivial⟩⟩, _, rfl, ?_⟩
       clear hb
       refine dm_ 5 ?_
       refine dp_ 6 (fun _ => Run.extract rfl rfl rfl) ?_
       exact by (
       refine dp_ 7 (fun _ => Run.extract rfl rfl rfl) ?_
       refine dp_ 8 (fun _ => Run.extract rfl rfl rfl) ?_
       exact useWD X25 ⟨b169, b224, A233, t26, c234, A235, c236, A237, t226, c238, A242, t239, c243, A246, c247, A250, c251, I231, I35, bl36, I33, rfl, H, le244, le248, le252, (St.sel HS [1, 2, 0, 3, 4, 5, 6, 7])⟩ )))))
   · have HT_ := True.intro
     refine WDo.alloc (v := .agg #[sn, vi 0]) (cs := #[sn, vi 0]) 10 (w_none rfl) HS rfl (by kernel_rfl) rfl (fun b254 w255 hb254 HS => ?_)
     refine ⟨⟨HS.nowO, HS.nowN.2, ⟨(HS.mu 4 rfl), (HS.mu 5 rfl), trivial⟩⟩, ?_⟩
     refine two__ 3 9 ?_ ?_
     · have HT_ := True.intro
       exact by (
       obtain ⟨t256, ha257, H⟩ := bind_some H
       refine dco_ 3 (w_none rfl) func61 (laws_toTable.runs k (⟨x1.f0, x1.f1⟩ : S85) A1_0 c1_0 t256 _ (HS.getO 2 rfl) hc1_0 ha257) ?_
       clear ha257
       rintro _ w258 ⟨v259, bl260, rfl, hO_, hb⟩
       replace HS := HS.got hb hO_
       dsimp only [List.cons_append, List.nil_append] at HS
       clear hO_
       obtain ⟨I261, bl262, HS⟩ := HS.unseal (sz := 1) rfl
       exact by (
       replace HS := HS.freezeN 1 (p := (rF kI t256.f0 I261)) rfl (fun _ hP_ _ => RepsB.reps hP_)
       dsimp only [List.eraseIdx] at HS
       refine ⟨⟨HS.nowO, HS.nowN.2.2, ⟨(HS.mu 5 rfl), (HS.mu 6 rfl), trivial⟩⟩, _, rfl, ?_⟩
       clear hb
       refine two__ 4 9 ?_ ?_
       · have HT_ := True.intro
         obtain ⟨A263, c264, rfl⟩ := row_slice (HS.mu 4 rfl)
         obtain ⟨A265, c266, rfl⟩ := row_slice (HS.mu 2 rfl)
         exact by (
         obtain ⟨A267, c268, rfl⟩ := row_slice (HS.mu 0 rfl)
         obtain ⟨t269, ha270, H⟩ := bind_some H
         refine dco_ 4 (w_none rfl) func71 (spec_ForkTable.runs k t26 A263 c264 A265 c266 t256 A267 c268 t269.1 t269.2.1 t269.2.2 _ (row_C rfl (HS.mu 4 rfl) (HS.getN 1 rfl)) (row_le (HS.mu 4 rfl)) (row_C rfl (HS.mu 2 rfl) (HS.elsK 3 rfl)) (row_le (HS.mu 2 rfl)) (row_C rfl (HS.mu 0 rfl) (HS.getN 0 rfl)) (row_le (HS.mu 0 rfl)) ha270) ?_
         clear ha270
         rintro _ w271 ⟨A272, c273, A276, c277, A280, c281, rfl, le274, hf275, le278, hf279, le282, hf283, hb⟩
         replace HS := HS.newNs hb (foot_cons hf275 (foot_cons hf279 (foot_cons hf283 foot_nil)))
         refine ⟨⟨HS.nowO, HS.nowN.2.2.2.2.2, ⟨(HS.mu 5 rfl), (HS.mu 6 rfl), trivial⟩⟩, _, rfl, ?_⟩
         clear hb
         exact by (
         refine dm_ 5 ?_
         refine dp_ 6 (fun _ => Run.extract rfl rfl rfl) ?_
         refine dp_ 7 (fun _ => Run.extract rfl rfl rfl) ?_
         refine dp_ 8 (fun _ => Run.extract rfl rfl rfl) ?_
         refine WD.alloc (v := .agg #[sn, sn]) (cs := #[sn, sn]) 9 (w_none rfl) HS rfl (by kernel_rfl) rfl (fun b284 w285 hb284 HS => ?_)
         refine ⟨⟨HS.nowO, HS.nowN.2.2.2.2.2, ⟨(HS.mu 6 rfl), (HS.mu 7 rfl), trivial⟩⟩, ?_⟩
         exact useWD X25 ⟨b284, b254, A263, t26, c264, A265, c266, A267, t256, c268, A272, t269, c273, A276, c277, A280, c281, I261, I35, bl36, I33, rfl, H, le274, le278, le282, (St.sel HS [2, 0, 1, 3, 4, 5, 6, 7])⟩ ))
       · have HT_ := True.intro
         exact by (
         refine WDo.alloc (v := .agg #[sn, sn]) (cs := #[sn, sn]) 9 (w_none rfl) HS rfl (by kernel_rfl) rfl (fun b286 w287 hb286 HS => ?_)
         refine ⟨⟨HS.nowO, HS.nowN.2.2, ⟨(HS.mu 6 rfl), (HS.mu 7 rfl), trivial⟩⟩, ?_⟩
         obtain ⟨A288, c289, rfl⟩ := row_slice (HS.mu 5 rfl)
         obtain ⟨A290, c291, rfl⟩ := row_slice (HS.mu 3 rfl)
         obtain ⟨A292, c293, rfl⟩ := row_slice (HS.mu 1 rfl)
         obtain ⟨t294, ha295, H⟩ := bind_some H
         refine dc_ 4 (w_none rfl) func71 (spec_ForkTable.runs k t26 A288 c289 A290 c291 t256 A292 c293 t294.1 t294.2.1 t294.2.2 _ (row_C rfl (HS.mu 5 rfl) (HS.getN 1 rfl)) (row_le (HS.mu 5 rfl)) (row_C rfl (HS.mu 3 rfl) (HS.elsK 4 rfl)) (row_le (HS.mu 3 rfl)) (row_C rfl (HS.mu 1 rfl) (HS.getN 0 rfl)) (row_le (HS.mu 1 rfl)) ha295) ?_
         clear ha295
         exact by (
         rintro _ w296 ⟨A297, c298, A301, c302, A305, c306, rfl, le299, hf300, le303, hf304, le307, hf308, hb⟩
         replace HS := HS.newNs hb (foot_cons hf300 (foot_cons hf304 (foot_cons hf308 foot_nil)))
         refine ⟨⟨HS.nowO, HS.nowN.2.2.2.2.2, ⟨(HS.mu 6 rfl), (HS.mu 7 rfl), trivial⟩⟩, _, rfl, ?_⟩
         clear hb
         refine dm_ 5 ?_
         refine dp_ 6 (fun _ => Run.extract rfl rfl rfl) ?_
         refine dp_ 7 (fun _ => Run.extract rfl rfl rfl) ?_
         refine dp_ 8 (fun _ => Run.extract rfl rfl rfl) ?_
         exact useWD X25 ⟨b286, b254, A288, t26, c289, A290, c291, A292, t256, c293, A297, t294, c298, A301, c302, A305, c306, I261, I35, bl36, I33, rfl, H, le299, le303, le307, (St.sel HS [2, 0, 1, 3, 4, 5, 6, 7])⟩ ))))
     · have HT_ := True.intro
       exact by (
       refine WDo.alloc (v := .agg #[sn, sn]) (cs := #[sn, sn]) 9 (w_none rfl) HS rfl (by kernel_rfl) rfl (fun b309 w310 hb309 HS => ?_)
       refine ⟨⟨HS.nowO, HS.nowN.2, ⟨(HS.mu 5 rfl), (HS.mu 6 rfl), trivial⟩⟩, ?_⟩
       obtain ⟨t311, ha312, H⟩ := bind_some H
       refine dc_ 3 (w_none rfl) func61 (laws_toTable.runs k (⟨x1.f0, x1.f1⟩ : S85) A1_0 c1_0 t311 _ (HS.getO 2 rfl) hc1_0 ha312) ?_
       clear ha312
       rintro _ w313 ⟨v314, bl315, rfl, hO_, hb⟩
       replace HS := HS.got hb hO_
       dsimp only [List.cons_append, List.nil_append] at HS
       exact by (
       clear hO_
       obtain ⟨I316, bl317, HS⟩ := HS.unseal (sz := 1) rfl
       replace HS := HS.freezeN 1 (p := (rF kI t311.f0 I316)) rfl (fun _ hP_ _ => RepsB.reps hP_)
       dsimp only [List.eraseIdx] at HS
       refine ⟨⟨HS.nowO, HS.nowN.2.2, ⟨(HS.mu 6 rfl), (HS.mu 7 rfl), trivial⟩⟩, _, rfl, ?_⟩
       clear hb
       obtain ⟨A318, c319, rfl⟩ := row_slice (HS.mu 5 rfl)
       obtain ⟨A320, c321, rfl⟩ := row_slice (HS.mu 3 rfl)
       exact by (
       obtain ⟨A322, c323, rfl⟩ := row_slice (HS.mu 0 rfl)
       obtain ⟨t324, ha325, H⟩ := bind_some H
       refine dc_ 4 (w_none rfl) func71 (spec_ForkTable.runs k t26 A318 c319 A320 c321 t311 A322 c323 t324.1 t324.2.1 t324.2.2 _ (row_C rfl (HS.mu 5 rfl) (HS.getN 1 rfl)) (row_le (HS.mu 5 rfl)) (row_C rfl (HS.mu 3 rfl) (HS.elsK 4 rfl)) (row_le (HS.mu 3 rfl)) (row_C rfl (HS.mu 0 rfl) (HS.getN 0 rfl)) (row_le (HS.mu 0 rfl)) ha325) ?_
       clear ha325
       rintro _ w326 ⟨A327, c328, A331, c332, A335, c336, rfl, le329, hf330, le333, hf334, le337, hf338, hb⟩
       replace HS := HS.newNs hb (foot_cons hf330 (foot_cons hf334 (foot_cons hf338 foot_nil)))
       refine ⟨⟨HS.nowO, HS.nowN.2.2.2.2.2, ⟨(HS.mu 6 rfl), (HS.mu 7 rfl), trivial⟩⟩, _, rfl, ?_⟩
       clear hb
       exact by (
       refine dm_ 5 ?_
       refine dp_ 6 (fun _ => Run.extract rfl rfl rfl) ?_
       refine dp_ 7 (fun _ => Run.extract rfl rfl rfl) ?_
       refine dp_ 8 (fun _ => Run.extract rfl rfl rfl) ?_
       exact useWD X25 ⟨b309, b254, A318, t26, c319, A320, c321, A322, t311, c323, A327, t324, c328, A331, c332, A335, c336, I316, I35, bl36, I33, rfl, H, le329, le333, le337, (St.sel HS [2, 1, 0, 3, 4, 5, 6, 7])⟩ ))))))
 · have HT_ := True.intro
   refine WDo.alloc (v := .agg #[sn, sn]) (cs := #[sn, sn]) 9 (w_none rfl) HS rfl (by kernel_rfl) rfl (fun b339 w340 hb339 HS => ?_)
   refine ⟨⟨HS.nowO, HS.nowN, ⟨(HS.mu 1 rfl), (HS.mu 2 rfl), trivial⟩⟩, ?_⟩
   exact by (
   refine two__ 1 10 ?_ ?_
   · have HT_ := True.intro
     obtain ⟨t341, ha342, H⟩ := bind_some H
     refine dco_ 1 (w_none rfl) func60 (laws_toStore.runs k (⟨x0.f0, x0.f1⟩ : S84) A0_0 c0_0 A0_1 c0_1 t341 _ (HS.getO 0 rfl) hc0_0 (HS.getO 1 rfl) hc0_1 ha342) ?_
     clear ha342
     rintro _ w343 ⟨v344, bl345, v346, bl347, rfl, hO_, hb⟩
     replace HS := HS.got hb hO_
     dsimp only [List.cons_append, List.nil_append] at HS
     exact by (
     clear hO_
     obtain ⟨I348, bl349, HS⟩ := HS.unseal (sz := 1) rfl
     replace HS := HS.freezeN 1 (p := (rF kI t341.f0 I348)) rfl (fun _ hP_ _ => RepsB.reps hP_)
     dsimp only [List.eraseIdx] at HS
     replace HS := HS.front 1 rfl
     dsimp only [List.eraseIdx] at HS
     obtain ⟨I350, bl351, HS⟩ := HS.unseal (sz := 1) rfl
     refine ⟨⟨HS.nowO, HS.nowN.2, ⟨(HS.mu 4 rfl), (HS.mu 5 rfl), trivial⟩⟩, _, rfl, ?_⟩
     exact by (
     clear hb
     refine two__ 3 10 ?_ ?_
     · have HT_ := True.intro
       obtain ⟨t352, ha353, H⟩ := bind_some H
       refine dco_ 3 (w_none rfl) func61 (laws_toTable.runs k (⟨x1.f0, x1.f1⟩ : S85) A1_0 c1_0 t352 _ (HS.getO 2 rfl) hc1_0 ha353) ?_
       clear ha353
       rintro _ w354 ⟨v355, bl356, rfl, hO_, hb⟩
       replace HS := HS.got hb hO_
       exact by (
       dsimp only [List.cons_append, List.nil_append] at HS
       clear hO_
       obtain ⟨I357, bl358, HS⟩ := HS.unseal (sz := 1) rfl
       replace HS := HS.freezeN 1 (p := (rF kI t352.f0 I357)) rfl (fun _ hP_ _ => RepsB.reps hP_)
       dsimp only [List.eraseIdx] at HS
       refine ⟨⟨HS.nowO, HS.nowN.2.2, ⟨(HS.mu 5 rfl), (HS.mu 6 rfl), trivial⟩⟩, _, rfl, ?_⟩
       clear hb
       refine two__ 4 10 ?_ ?_
       · have HT_ := True.intro
         exact by (
         obtain ⟨A359, c360, rfl⟩ := row_slice (HS.mu 3 rfl)
         obtain ⟨A361, c362, rfl⟩ := row_slice (HS.mu 1 rfl)
         obtain ⟨A363, c364, rfl⟩ := row_slice (HS.mu 0 rfl)
         obtain ⟨t365, ha366, H⟩ := bind_some H
         refine dco_ 4 (w_none rfl) func71 (spec_ForkTable.runs k t341 A359 c360 A361 c362 t352 A363 c364 t365.1 t365.2.1 t365.2.2 _ (row_C rfl (HS.mu 3 rfl) (HS.getN 1 rfl)) (row_le (HS.mu 3 rfl)) (row_C rfl (HS.mu 1 rfl) (HS.elsK 2 rfl)) (row_le (HS.mu 1 rfl)) (row_C rfl (HS.mu 0 rfl) (HS.getN 0 rfl)) (row_le (HS.mu 0 rfl)) ha366) ?_
         clear ha366
         rintro _ w367 ⟨A368, c369, A372, c373, A376, c377, rfl, le370, hf371, le374, hf375, le378, hf379, hb⟩
         replace HS := HS.newNs hb (foot_cons hf371 (foot_cons hf375 (foot_cons hf379 foot_nil)))
         exact by (
         refine ⟨⟨HS.nowO, HS.nowN.2.2.2.2.2, ⟨(HS.mu 5 rfl), (HS.mu 6 rfl), trivial⟩⟩, _, rfl, ?_⟩
         clear hb
         refine dm_ 5 ?_
         refine dp_ 6 (fun _ => Run.extract rfl rfl rfl) ?_
         refine dp_ 7 (fun _ => Run.extract rfl rfl rfl) ?_
         refine dp_ 8 (fun _ => Run.extract rfl rfl rfl) ?_
         refine WD.alloc (v := .agg #[sn, vi 0]) (cs := #[sn, vi 0]) 10 (w_none rfl) HS rfl (by kernel_rfl) rfl (fun b380 w381 hb380 HS => ?_)
         refine ⟨⟨HS.nowO, HS.nowN.2.2.2.2.2, ⟨(HS.mu 6 rfl), (HS.mu 7 rfl), trivial⟩⟩, ?_⟩
         exact useWD X25 ⟨b339, b380, A359, t341, c360, A361, c362, A363, t352, c364, A368, t365, c369, A372, c373, A376, c377, I357, I350, bl351, I348, rfl, H, le370, le374, le378, (St.sel HS [0, 5, 1, 2, 3, 4, 6, 7])⟩ ))
       · have HT_ := True.intro
         exact by (
         refine WDo.alloc (v := .agg #[sn, vi 0]) (cs := #[sn, vi 0]) 10 (w_none rfl) HS rfl (by kernel_rfl) rfl (fun b382 w383 hb382 HS => ?_)
         refine ⟨⟨HS.nowO, HS.nowN.2.2, ⟨(HS.mu 6 rfl), (HS.mu 7 rfl), trivial⟩⟩, ?_⟩
         obtain ⟨A384, c385, rfl⟩ := row_slice (HS.mu 4 rfl)
         obtain ⟨A386, c387, rfl⟩ := row_slice (HS.mu 2 rfl)
         obtain ⟨A388, c389, rfl⟩ := row_slice (HS.mu 1 rfl)
         obtain ⟨t390, ha391, H⟩ := bind_some H
         refine dc_ 4 (w_none rfl) func71 (spec_ForkTable.runs k t341 A384 c385 A386 c387 t352 A388 c389 t390.1 t390.2.1 t390.2.2 _ (row_C rfl (HS.mu 4 rfl) (HS.getN 1 rfl)) (row_le (HS.mu 4 rfl)) (row_C rfl (HS.mu 2 rfl) (HS.elsK 3 rfl)) (row_le (HS.mu 2 rfl)) (row_C rfl (HS.mu 1 rfl) (HS.getN 0 rfl)) (row_le (HS.mu 1 rfl)) ha391) ?_
         clear ha391
         exact by (
         rintro _ w392 ⟨A393, c394, A397, c398, A401, c402, rfl, le395, hf396, le399, hf400, le403, hf404, hb⟩
         replace HS := HS.newNs hb (foot_cons hf396 (foot_cons hf400 (foot_cons hf404 foot_nil)))
         refine ⟨⟨HS.nowO, HS.nowN.2.2.2.2.2, ⟨(HS.mu 6 rfl), (HS.mu 7 rfl), trivial⟩⟩, _, rfl, ?_⟩
         clear hb
         refine dm_ 5 ?_
         refine dp_ 6 (fun _ => Run.extract rfl rfl rfl) ?_
         refine dp_ 7 (fun _ => Run.extract rfl rfl rfl) ?_
         refine dp_ 8 (fun _ => Run.extract rfl rfl rfl) ?_
         exact useWD X25 ⟨b339, b382, A384, t341, c385, A386, c387, A388, t352, c389, A393, t390, c394, A397, c398, A401, c402, I357, I350, bl351, I348, rfl, H, le395, le399, le403, (St.sel HS [0, 5, 1, 2, 3, 4, 6, 7])⟩ )))
     · have HT_ := True.intro
       exact by (
       refine WDo.alloc (v := .agg #[sn, vi 0]) (cs := #[sn, vi 0]) 10 (w_none rfl) HS rfl (by kernel_rfl) rfl (fun b405 w406 hb405 HS => ?_)
       refine ⟨⟨HS.nowO, HS.nowN.2, ⟨(HS.mu 5 rfl), (HS.mu 6 rfl), trivial⟩⟩, ?_⟩
       obtain ⟨t407, ha408, H⟩ := bind_some H
       refine dc_ 3 (w_none rfl) func61 (laws_toTable.runs k (⟨x1.f0, x1.f1⟩ : S85) A1_0 c1_0 t407 _ (HS.getO 2 rfl) hc1_0 ha408) ?_
       clear ha408
       rintro _ w409 ⟨v410, bl411, rfl, hO_, hb⟩
       replace HS := HS.got hb hO_
       dsimp only [List.cons_append, List.nil_append] at HS
       exact by (
       clear hO_
       obtain ⟨I412, bl413, HS⟩ := HS.unseal (sz := 1) rfl
       replace HS := HS.freezeN 1 (p := (rF kI t407.f0 I412)) rfl (fun _ hP_ _ => RepsB.reps hP_)
       dsimp only [List.eraseIdx] at HS
       refine ⟨⟨HS.nowO, HS.nowN.2.2, ⟨(HS.mu 6 rfl), (HS.mu 7 rfl), trivial⟩⟩, _, rfl, ?_⟩
       clear hb
       obtain ⟨A414, c415, rfl⟩ := row_slice (HS.mu 4 rfl)
       obtain ⟨A416, c417, rfl⟩ := row_slice (HS.mu 2 rfl)
       exact by (
       obtain ⟨A418, c419, rfl⟩ := row_slice (HS.mu 0 rfl)
       obtain ⟨t420, ha421, H⟩ := bind_some H
       refine dc_ 4 (w_none rfl) func71 (spec_ForkTable.runs k t341 A414 c415 A416 c417 t407 A418 c419 t420.1 t420.2.1 t420.2.2 _ (row_C rfl (HS.mu 4 rfl) (HS.getN 1 rfl)) (row_le (HS.mu 4 rfl)) (row_C rfl (HS.mu 2 rfl) (HS.elsK 3 rfl)) (row_le (HS.mu 2 rfl)) (row_C rfl (HS.mu 0 rfl) (HS.getN 0 rfl)) (row_le (HS.mu 0 rfl)) ha421) ?_
       clear ha421
       rintro _ w422 ⟨A423, c424, A427, c428, A431, c432, rfl, le425, hf426, le429, hf430, le433, hf434, hb⟩
       replace HS := HS.newNs hb (foot_cons hf426 (foot_cons hf430 (foot_cons hf434 foot_nil)))
       refine ⟨⟨HS.nowO, HS.nowN.2.2.2.2.2, ⟨(HS.mu 6 rfl), (HS.mu 7 rfl), trivial⟩⟩, _, rfl, ?_⟩
       clear hb
       exact by (
       refine dm_ 5 ?_
       refine dp_ 6 (fun _ => Run.extract rfl rfl rfl) ?_
       refine dp_ 7 (fun _ => Run.extract rfl rfl rfl) ?_
       refine dp_ 8 (fun _ => Run.extract rfl rfl rfl) ?_
       exact useWD X25 ⟨b339, b405, A414, t341, c415, A416, c417, A418, t407, c419, A423, t420, c424, A427, c428, A431, c432, I412, I350, bl351, I348, rfl, H, le425, le429, le433, (St.sel HS [1, 5, 0, 2, 3, 4, 6, 7])⟩ ))))))
   · have HT_ := True.intro
     refine WDo.alloc (v := .agg #[sn, vi 0]) (cs := #[sn, vi 0]) 10 (w_none rfl) HS rfl (by kernel_rfl) rfl (fun b435 w436 hb435 HS => ?_)
     refine ⟨⟨HS.nowO, HS.nowN, ⟨(HS.mu 2 rfl), (HS.mu 3 rfl), trivial⟩⟩, ?_⟩
     exact by (
     obtain ⟨t437, ha438, H⟩ := bind_some H
     refine dc_ 1 (w_none rfl) func60 (laws_toStore.runs k (⟨x0.f0, x0.f1⟩ : S84) A0_0 c0_0 A0_1 c0_1 t437 _ (HS.getO 0 rfl) hc0_0 (HS.getO 1 rfl) hc0_1 ha438) ?_
     clear ha438
     rintro _ w439 ⟨v440, bl441, v442, bl443, rfl, hO_, hb⟩
     replace HS := HS.got hb hO_
     dsimp only [List.cons_append, List.nil_append] at HS
     clear hO_
     obtain ⟨I444, bl445, HS⟩ := HS.unseal (sz := 1) rfl
     exact by (
     replace HS := HS.freezeN 1 (p := (rF kI t437.f0 I444)) rfl (fun _ hP_ _ => RepsB.reps hP_)
     dsimp only [List.eraseIdx] at HS
     replace HS := HS.front 1 rfl
     dsimp only [List.eraseIdx] at HS
     obtain ⟨I446, bl447, HS⟩ := HS.unseal (sz := 1) rfl
     refine ⟨⟨HS.nowO, HS.nowN.2, ⟨(HS.mu 5 rfl), (HS.mu 6 rfl), trivial⟩⟩, _, rfl, ?_⟩
     clear hb
     obtain ⟨t448, ha449, H⟩ := bind_some H
     exact by (
     refine dc_ 3 (w_none rfl) func61 (laws_toTable.runs k (⟨x1.f0, x1.f1⟩ : S85) A1_0 c1_0 t448 _ (HS.getO 2 rfl) hc1_0 ha449) ?_
     clear ha449
     rintro _ w450 ⟨v451, bl452, rfl, hO_, hb⟩
     replace HS := HS.got hb hO_
     dsimp only [List.cons_append, List.nil_append] at HS
     clear hO_
     obtain ⟨I453, bl454, HS⟩ := HS.unseal (sz := 1) rfl
     replace HS := HS.freezeN 1 (p := (rF kI t448.f0 I453)) rfl (fun _ hP_ _ => RepsB.reps hP_)
     exact by (
     dsimp only [List.eraseIdx] at HS
     refine ⟨⟨HS.nowO, HS.nowN.2.2, ⟨(HS.mu 6 rfl), (HS.mu 7 rfl), trivial⟩⟩, _, rfl, ?_⟩
     clear hb
     obtain ⟨A455, c456, rfl⟩ := row_slice (HS.mu 3 rfl)
     obtain ⟨A457, c458, rfl⟩ := row_slice (HS.mu 1 rfl)
     obtain ⟨A459, c460, rfl⟩ := row_slice (HS.mu 0 rfl)
     obtain ⟨t461, ha462, H⟩ := bind_some H
     refine dc_ 4 (w_none rfl) func71 (spec_ForkTable.runs k t437 A455 c456 A457 c458 t448 A459 c460 t461.1 t461.2.1 t461.2.2 _ (row_C rfl (HS.mu 3 rfl) (HS.getN 1 rfl)) (row_le (HS.mu 3 rfl)) (row_C rfl (HS.mu 1 rfl) (HS.elsK 2 rfl)) (row_le (HS.mu 1 rfl)) (row_C rfl (HS.mu 0 rfl) (HS.getN 0 rfl)) (row_le (HS.mu 0 rfl)) ha462) ?_
     exact by (
     clear ha462
     rintro _ w463 ⟨A464, c465, A468, c469, A472, c473, rfl, le466, hf467, le470, hf471, le474, hf475, hb⟩
     replace HS := HS.newNs hb (foot_cons hf467 (foot_cons hf471 (foot_cons hf475 foot_nil)))
     refine ⟨⟨HS.nowO, HS.nowN.2.2.2.2.2, ⟨(HS.mu 6 rfl), (HS.mu 7 rfl), trivial⟩⟩, _, rfl, ?_⟩
     clear hb
     refine dm_ 5 ?_
     refine dp_ 6 (fun _ => Run.extract rfl rfl rfl) ?_
     refine dp_ 7 (fun _ => Run.extract rfl rfl rfl) ?_
     exact by (
     refine dp_ 8 (fun _ => Run.extract rfl rfl rfl) ?_
     exact useWD X25 ⟨b339, b435, A455, t437, c456, A457, c458, A459, t448, c460, A464, t461, c465, A468, c469, A472, c473, I453, I446, bl447, I444, rfl, H, le466, le470, le474, (St.sel HS [4, 5, 0, 1, 2, 3, 6, 7])⟩ )))))))
 · have HT_ := True.intro
   refine WDo.alloc (v := .agg #[sn, vi 0]) (cs := #[sn, vi 0]) 10 (w_none rfl) HS rfl (by kernel_rfl) rfl (fun b476 w477 hb476 HS => ?_)
   refine ⟨⟨HS.nowO, HS.nowN, ⟨(HS.mu 1 rfl), (HS.mu 2 rfl), trivial⟩⟩, ?_⟩
   refine two__ 1 9 ?_ ?_
   · have HT_ := True.intro
     obtain ⟨t478, ha479, H⟩ := bind_some H
     exact by (
     refine dco_ 1 (w_none rfl) func60 (laws_toStore.runs k (⟨x0.f0, x0.f1⟩ : S84) A0_0 c0_0 A0_1 c0_1 t478 _ (HS.getO 0 rfl) hc0_0 (HS.getO 1 rfl) hc0_1 ha479) ?_
     clear ha479
     rintro _ w480 ⟨v481, bl482, v483, bl484, rfl, hO_, hb⟩
     replace HS := HS.got hb hO_
     dsimp only [List.cons_append, List.nil_append] at HS
     clear hO_
     obtain ⟨I485, bl486, HS⟩ := HS.unseal (sz := 1) rfl
     replace HS := HS.freezeN 1 (p := (rF kI t478.f0 I485)) rfl (fun _ hP_ _ => RepsB.reps hP_)
     exact by (
     dsimp only [List.eraseIdx] at HS
     replace HS := HS.front 1 rfl
     dsimp only [List.eraseIdx] at HS
     obtain ⟨I487, bl488, HS⟩ := HS.unseal (sz := 1) rfl
     refine ⟨⟨HS.nowO, HS.nowN.2, ⟨(HS.mu 4 rfl), (HS.mu 5 rfl), trivial⟩⟩, _, rfl, ?_⟩
     clear hb
     refine two__ 3 9 ?_ ?_
     · have HT_ := True.intro
       exact by (
       obtain ⟨t489, ha490, H⟩ := bind_some H
       refine dco_ 3 (w_none rfl) func61 (laws_toTable.runs k (⟨x1.f0, x1.f1⟩ : S85) A1_0 c1_0 t489 _ (HS.getO 2 rfl) hc1_0 ha490) ?_
       clear ha490
       rintro _ w491 ⟨v492, bl493, rfl, hO_, hb⟩
       replace HS := HS.got hb hO_
       dsimp only [List.cons_append, List.nil_append] at HS
       clear hO_
       obtain ⟨I494, bl495, HS⟩ := HS.unseal (sz := 1) rfl
       exact by (
       replace HS := HS.freezeN 1 (p := (rF kI t489.f0 I494)) rfl (fun _ hP_ _ => RepsB.reps hP_)
       dsimp only [List.eraseIdx] at HS
       refine ⟨⟨HS.nowO, HS.nowN.2.2, ⟨(HS.mu 5 rfl), (HS.mu 6 rfl), trivial⟩⟩, _, rfl, ?_⟩
       clear hb
       refine two__ 4 9 ?_ ?_
       · have HT_ := True.intro
         obtain ⟨A496, c497, rfl⟩ := row_slice (HS.mu 3 rfl)
         obtain ⟨A498, c499, rfl⟩ := row_slice (HS.mu 1 rfl)
         exact by (
         obtain ⟨A500, c501, rfl⟩ := row_slice (HS.mu 0 rfl)
         obtain ⟨t502, ha503, H⟩ := bind_some H
         refine dco_ 4 (w_none rfl) func71 (spec_ForkTable.runs k t478 A496 c497 A498 c499 t489 A500 c501 t502.1 t502.2.1 t502.2.2 _ (row_C rfl (HS.mu 3 rfl) (HS.getN 1 rfl)) (row_le (HS.mu 3 rfl)) (row_C rfl (HS.mu 1 rfl) (HS.elsK 2 rfl)) (row_le (HS.mu 1 rfl)) (row_C rfl (HS.mu 0 rfl) (HS.getN 0 rfl)) (row_le (HS.mu 0 rfl)) ha503) ?_
         clear ha503
         rintro _ w504 ⟨A505, c506, A509, c510, A513, c514, rfl, le507, hf508, le511, hf512, le515, hf516, hb⟩
         replace HS := HS.newNs hb (foot_cons hf508 (foot_cons hf512 (foot_cons hf516 foot_nil)))
         refine ⟨⟨HS.nowO, HS.nowN.2.2.2.2.2, ⟨(HS.mu 5 rfl), (HS.mu 6 rfl), trivial⟩⟩, _, rfl, ?_⟩
         clear hb
         exact by (
         refine dm_ 5 ?_
         refine dp_ 6 (fun _ => Run.extract rfl rfl rfl) ?_
         refine dp_ 7 (fun _ => Run.extract rfl rfl rfl) ?_
         refine dp_ 8 (fun _ => Run.extract rfl rfl rfl) ?_
         refine WD.alloc (v := .agg #[sn, sn]) (cs := #[sn, sn]) 9 (w_none rfl) HS rfl (by kernel_rfl) rfl (fun b517 w518 hb517 HS => ?_)
         refine ⟨⟨HS.nowO, HS.nowN.2.2.2.2.2, ⟨(HS.mu 6 rfl), (HS.mu 7 rfl), trivial⟩⟩, ?_⟩
         exact useWD X25 ⟨b517, b476, A496, t478, c497, A498, c499, A500, t489, c501, A505, t502, c506, A509, c510, A513, c514, I494, I487, bl488, I485, rfl, H, le507, le511, le515, (St.sel HS [5, 0, 1, 2, 3, 4, 6, 7])⟩ ))
       · have HT_ := True.intro
         exact by (
         refine WDo.alloc (v := .agg #[sn, sn]) (cs := #[sn, sn]) 9 (w_none rfl) HS rfl (by kernel_rfl) rfl (fun b519 w520 hb519 HS => ?_)
         refine ⟨⟨HS.nowO, HS.nowN.2.2, ⟨(HS.mu 6 rfl), (HS.mu 7 rfl), trivial⟩⟩, ?_⟩
         obtain ⟨A521, c522, rfl⟩ := row_slice (HS.mu 4 rfl)
         obtain ⟨A523, c524, rfl⟩ := row_slice (HS.mu 2 rfl)
         obtain ⟨A525, c526, rfl⟩ := row_slice (HS.mu 1 rfl)
         obtain ⟨t527, ha528, H⟩ := bind_some H
         refine dc_ 4 (w_none rfl) func71 (spec_ForkTable.runs k t478 A521 c522 A523 c524 t489 A525 c526 t527.1 t527.2.1 t527.2.2 _ (row_C rfl (HS.mu 4 rfl) (HS.getN 1 rfl)) (row_le (HS.mu 4 rfl)) (row_C rfl (HS.mu 2 rfl) (HS.elsK 3 rfl)) (row_le (HS.mu 2 rfl)) (row_C rfl (HS.mu 1 rfl) (HS.getN 0 rfl)) (row_le (HS.mu 1 rfl)) ha528) ?_
         clear ha528
         exact by (
         rintro _ w529 ⟨A530, c531, A534, c535, A538, c539, rfl, le532, hf533, le536, hf537, le540, hf541, hb⟩
         replace HS := HS.newNs hb (foot_cons hf533 (foot_cons hf537 (foot_cons hf541 foot_nil)))
         refine ⟨⟨HS.nowO, HS.nowN.2.2.2.2.2, ⟨(HS.mu 6 rfl), (HS.mu 7 rfl), trivial⟩⟩, _, rfl, ?_⟩
         clear hb
         refine dm_ 5 ?_
         refine dp_ 6 (fun _ => Run.extract rfl rfl rfl) ?_
         refine dp_ 7 (fun _ => Run.extract rfl rfl rfl) ?_
         refine dp_ 8 (fun _ => Run.extract rfl rfl rfl) ?_
         exact useWD X25 ⟨b519, b476, A521, t478, c522, A523, c524, A525, t489, c526, A530, t527, c531, A534, c535, A538, c539, I494, I487, bl488, I485, rfl, H, le532, le536, le540, (St.sel HS [5, 0, 1, 2, 3, 4, 6, 7])⟩ ))))
     · have HT_ := True.intro
       exact by (
       refine WDo.alloc (v := .agg #[sn, sn]) (cs := #[sn, sn]) 9 (w_none rfl) HS rfl (by kernel_rfl) rfl (fun b542 w543 hb542 HS => ?_)
       refine ⟨⟨HS.nowO, HS.nowN.2, ⟨(HS.mu 5 rfl), (HS.mu 6 rfl), trivial⟩⟩, ?_⟩
       obtain ⟨t544, ha545, H⟩ := bind_some H
       refine dc_ 3 (w_none rfl) func61 (laws_toTable.runs k (⟨x1.f0, x1.f1⟩ : S85) A1_0 c1_0 t544 _ (HS.getO 2 rfl) hc1_0 ha545) ?_
       clear ha545
       rintro _ w546 ⟨v547, bl548, rfl, hO_, hb⟩
       replace HS := HS.got hb hO_
       dsimp only [List.cons_append, List.nil_append] at HS
       exact by (
       clear hO_
       obtain ⟨I549, bl550, HS⟩ := HS.unseal (sz := 1) rfl
       replace HS := HS.freezeN 1 (p := (rF kI t544.f0 I549)) rfl (fun _ hP_ _ => RepsB.reps hP_)
       dsimp only [List.eraseIdx] at HS
       refine ⟨⟨HS.nowO, HS.nowN.2.2, ⟨(HS.mu 6 rfl), (HS.mu 7 rfl), trivial⟩⟩, _, rfl, ?_⟩
       clear hb
       obtain ⟨A551, c552, rfl⟩ := row_slice (HS.mu 4 rfl)
       obtain ⟨A553, c554, rfl⟩ := row_slice (HS.mu 2 rfl)
       exact by (
       obtain ⟨A555, c556, rfl⟩ := row_slice (HS.mu 0 rfl)
       obtain ⟨t557, ha558, H⟩ := bind_some H
       refine dc_ 4 (w_none rfl) func71 (spec_ForkTable.runs k t478 A551 c552 A553 c554 t544 A555 c556 t557.1 t557.2.1 t557.2.2 _ (row_C rfl (HS.mu 4 rfl) (HS.getN 1 rfl)) (row_le (HS.mu 4 rfl)) (row_C rfl (HS.mu 2 rfl) (HS.elsK 3 rfl)) (row_le (HS.mu 2 rfl)) (row_C rfl (HS.mu 0 rfl) (HS.getN 0 rfl)) (row_le (HS.mu 0 rfl)) ha558) ?_
       clear ha558
       rintro _ w559 ⟨A560, c561, A564, c565, A568, c569, rfl, le562, hf563, le566, hf567, le570, hf571, hb⟩
       replace HS := HS.newNs hb (foot_cons hf563 (foot_cons hf567 (foot_cons hf571 foot_nil)))
       refine ⟨⟨HS.nowO, HS.nowN.2.2.2.2.2, ⟨(HS.mu 6 rfl), (HS.mu 7 rfl), trivial⟩⟩, _, rfl, ?_⟩
       clear hb
       exact by (
       refine dm_ 5 ?_
       refine dp_ 6 (fun _ => Run.extract rfl rfl rfl) ?_
       refine dp_ 7 (fun _ => Run.extract rfl rfl rfl) ?_
       refine dp_ 8 (fun _ => Run.extract rfl rfl rfl) ?_
       exact useWD X25 ⟨b542, b476, A551, t478, c552, A553, c554, A555, t544, c556, A560, t557, c561, A564, c565, A568, c569, I549, I487, bl488, I485, rfl, H, le562, le566, le570, (St.sel HS [5, 1, 0, 2, 3, 4, 6, 7])⟩ ))))))
   · have HT_ := True.intro
     refine WDo.alloc (v := .agg #[sn, sn]) (cs := #[sn, sn]) 9 (w_none rfl) HS rfl (by kernel_rfl) rfl (fun b572 w573 hb572 HS => ?_)
     refine ⟨⟨HS.nowO, HS.nowN, ⟨(HS.mu 2 rfl), (HS.mu 3 rfl), trivial⟩⟩, ?_⟩
     exact by (
     obtain ⟨t574, ha575, H⟩ := bind_some H
     refine dc_ 1 (w_none rfl) func60 (laws_toStore.runs k (⟨x0.f0, x0.f1⟩ : S84) A0_0 c0_0 A0_1 c0_1 t574 _ (HS.getO 0 rfl) hc0_0 (HS.getO 1 rfl) hc0_1 ha575) ?_
     clear ha575
     rintro _ w576 ⟨v577, bl578, v579, bl580, rfl, hO_, hb⟩
     replace HS := HS.got hb hO_
     dsimp only [List.cons_append, List.nil_append] at HS
     clear hO_
     obtain ⟨I581, bl582, HS⟩ := HS.unseal (sz := 1) rfl
     exact by (
     replace HS := HS.freezeN 1 (p := (rF kI t574.f0 I581)) rfl (fun _ hP_ _ => RepsB.reps hP_)
     dsimp only [List.eraseIdx] at HS
     replace HS := HS.front 1 rfl
     dsimp only [List.eraseIdx] at HS
     obtain ⟨I583, bl584, HS⟩ := HS.unseal (sz := 1) rfl
     refine ⟨⟨HS.nowO, HS.nowN.2, ⟨(HS.mu 5 rfl), (HS.mu 6 rfl), trivial⟩⟩, _, rfl, ?_⟩
     clear hb
     obtain ⟨t585, ha586, H⟩ := bind_some H
     exact by (
     refine dc_ 3 (w_none rfl) func61 (laws_toTable.runs k (⟨x1.f0, x1.f1⟩ : S85) A1_0 c1_0 t585 _ (HS.getO 2 rfl) hc1_0 ha586) ?_
     clear ha586
     rintro _ w587 ⟨v588, bl589, rfl, hO_, hb⟩
     replace HS := HS.got hb hO_
     dsimp only [List.cons_append, List.nil_append] at HS
     clear hO_
     obtain ⟨I590, bl591, HS⟩ := HS.unseal (sz := 1) rfl
     replace HS := HS.freezeN 1 (p := (rF kI t585.f0 I590)) rfl (fun _ hP_ _ => RepsB.reps hP_)
     exact by (
     dsimp only [List.eraseIdx] at HS
     refine ⟨⟨HS.nowO, HS.nowN.2.2, ⟨(HS.mu 6 rfl), (HS.mu 7 rfl), trivial⟩⟩, _, rfl, ?_⟩
     clear hb
     obtain ⟨A592, c593, rfl⟩ := row_slice (HS.mu 3 rfl)
     obtain ⟨A594, c595, rfl⟩ := row_slice (HS.mu 1 rfl)
     obtain ⟨A596, c597, rfl⟩ := row_slice (HS.mu 0 rfl)
     obtain ⟨t598, ha599, H⟩ := bind_some H
     refine dc_ 4 (w_none rfl) func71 (spec_ForkTable.runs k t574 A592 c593 A594 c595 t585 A596 c597 t598.1 t598.2.1 t598.2.2 _ (row_C rfl (HS.mu 3 rfl) (HS.getN 1 rfl)) (row_le (HS.mu 3 rfl)) (row_C rfl (HS.mu 1 rfl) (HS.elsK 2 rfl)) (row_le (HS.mu 1 rfl)) (row_C rfl (HS.mu 0 rfl) (HS.getN 0 rfl)) (row_le (HS.mu 0 rfl)) ha599) ?_
     exact by (
     clear ha599
     rintro _ w600 ⟨A601, c602, A605, c606, A609, c610, rfl, le603, hf604, le607, hf608, le611, hf612, hb⟩
     replace HS := HS.newNs hb (foot_cons hf604 (foot_cons hf608 (foot_cons hf612 foot_nil)))
     refine ⟨⟨HS.nowO, HS.nowN.2.2.2.2.2, ⟨(HS.mu 6 rfl), (HS.mu 7 rfl), trivial⟩⟩, _, rfl, ?_⟩
     clear hb
     refine dm_ 5 ?_
     refine dp_ 6 (fun _ => Run.extract rfl rfl rfl) ?_
     refine dp_ 7 (fun _ => Run.extract rfl rfl rfl) ?_
     exact by (
     refine dp_ 8 (fun _ => Run.extract rfl rfl rfl) ?_
     exact useWD X25 ⟨b572, b476, A592, t574, c593, A594, c595, A596, t585, c597, A601, t598, c602, A605, c606, A609, c610, I590, I583, bl584, I581, rfl, H, le603, le607, le611, (St.sel HS [5, 4, 0, 1, 2, 3, 6, 7])⟩ )))))))))))))
end Go.Proofs.Ytlpginalgdbopaa.PFnExactForkTable
