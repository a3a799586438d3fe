/- Functions that the statement reaches, as Lean functions, and the proof that a call of each comes to just its answer; written by this claim's own program. No conditions. -/
import Derived.Test.YtlpginalgdbopaaGFnExactForkTable1
namespace Go.Proofs.Ytlpginalgdbopaa.PFnExactForkTable
open Try
open Go.RowKit Go.Proofs.YtlpginalgdbopaaW.PrintWords Go.Proofs.YtlpginalgdbopaaW.PrintLast Go.Proofs.YtlpginalgdbopaaW.PrintMore Go.Proofs.Ytlpginalgdbopaa.XW Go.Proofs.Ytlpginalgdbopaa.XOp Go.Proofs.Ytlpginalgdbopaa.XSt Go.Proofs.Ytlpginalgdbopaa.XDraw
set_option linter.unusedVariables false
set_option linter.unusedSimpArgs false
set_option maxHeartbeats 4000000
set_option maxRecDepth 20000
def spec_ForkTable.b0 (x1 : S67) (rec_ : Int → (List Int) → Option ((S58 × S67 × Bool) ⊕ (Int × (List Int)))) (k58 : Nat) (i37 : Int) (xs38 : List Int) : Option ((S58 × S67 × Bool) ⊕ (Int × (List Int))) := (if i37 < (x1.f0.length : Int) then (if 0 ≤ i37 ∧ i37 < (x1.f0.length : Int) then ((spec_SharePage.g k58 xs38 (x1.f0.getD i37.toNat 0)).bind fun t68 => (if t68.2 = true then (rec_ (wrap64 (i37 + 1)) t68.1) else (some (Sum.inl ((⟨[], []⟩ : S58), (⟨[], 0⟩ : S67), false))))) else none) else (some (Sum.inr (i37, xs38))))
def spec_ForkTable.l0 (x1 : S67) : Nat → Int → (List Int) → Option ((S58 × S67 × Bool) ⊕ (Int × (List Int)))
 | 0, _, _ => none
 | k + 1, i37, xs38 => spec_ForkTable.b0 x1 (spec_ForkTable.l0 x1 k) k i37 xs38
def spec_ForkTable.g (k : Nat) (x0 : S58) (x1 : S67) : Option (S58 × S67 × Bool) := ((spec_TableOk.g k (⟨x0.f0, x0.f1⟩ : S58) (⟨x1.f0, x1.f1⟩ : S67)).bind fun t12 => (if t12 = true then ((spec_l15Copy.g k (⟨x0.f0, x0.f1⟩ : S58)).bind fun t17 => ((spec_ForkTable.l0 x1 k 0 t17.f0).bind (fun oc56 => match oc56 with | .inl r_ => some r_ | .inr ⟨i37, xs38⟩ => ((spec_l15CopyTable.g k (⟨x1.f0, x1.f1⟩ : S67)).bind fun t47 => (some ((⟨xs38, t17.f1⟩ : S58), (⟨t47.f0, t47.f1⟩ : S67), true)))))) else (some ((⟨[], []⟩ : S58), (⟨[], 0⟩ : S67), false))))
theorem spec_ForkTable.runs (k : Nat) (x0 : S58) (A0_0 : Option Addr) (c0_0 : Nat) (A0_1 : Option Addr) (c0_1 : Nat) (x1 : S67) (A1_0 : Option Addr) (c1_0 : Nat) (r1 : S58) (r2 : S67) (r3 : Bool) (w : World) (hr0_0 : kI.C w A0_0 x0.f0.length x0.f0) (hc0_0 : x0.f0.length ≤ c0_0) (hr0_1 : kS62.C w A0_1 x0.f1.length x0.f1) (hc0_1 : x0.f1.length ≤ c0_1) (hr1_0 : kI.C w A1_0 x1.f0.length x1.f0) (hc1_0 : x1.f0.length ≤ c1_0) (H : spec_ForkTable.g k x0 x1 = some (r1, r2, r3)) :
   Calls prog 71 #[.agg #[.slice A0_0 x0.f0.length c0_0, .slice A0_1 x0.f1.length c0_1], .agg #[.slice A1_0 x1.f0.length c1_0, vi x1.f1]] w fun e w' => ∃ (A0_0_ : Option Addr) (c0_0_ : Nat) (A0_1_ : Option Addr) (c0_1_ : Nat) (A1_0_ : Option Addr) (c1_0_ : Nat), e = .returned (.tuple #[.agg #[.slice A0_0_ r1.f0.length c0_0_, .slice A0_1_ r1.f1.length c0_1_], .agg #[.slice A1_0_ r2.f0.length c1_0_, vi r2.f1], .bool r3]) ∧ r1.f0.length ≤ c0_0_ ∧ Foot (cF kI A0_0_ r1.f0) w' (fun k_ => w.heap.size ≤ k_) ∧ r1.f1.length ≤ c0_1_ ∧ Foot (cF kS62 A0_1_ r1.f1) w' (fun k_ => w.heap.size ≤ k_) ∧ r2.f0.length ≤ c1_0_ ∧ Foot (cF kI A1_0_ r2.f0) w' (fun k_ => w.heap.size ≤ k_) ∧ Below w.heap.size w w' := by
 unfold spec_ForkTable.g at H
 have HS : St (fun _ => True) w w [] [(cF kI A0_0 x0.f0), (cF kS62 A0_1 x0.f1), (cF kI A1_0 x1.f0)] [] := St.start (foot_cons (foot_C (Kd.heap_int _) hr0_0) (foot_cons (foot_C (Kd.heap_slice _ h62) hr0_1) (foot_cons (foot_C (Kd.heap_int _) hr1_0) foot_nil)))
 refine cw_ (n := 46) func71 fun R_ hR_ => ?_
 refine sr_ fun _ hK1 => ?_
 refine bo_ HS (fun b2 w3 hb2 HS => ?_)
 refine bo_ HS (fun b4 w5 hb4 HS => ?_)
 refine WL.alloc HS (v := .agg #[sn, sn]) (cs := #[sn, sn]) rfl rfl (by decide) rfl (by kernel_rfl) rfl (fun b6 w7 hb6 HS => ?_)
 refine WL.alloc HS (v := .agg #[sn, vi 0]) (cs := #[sn, vi 0]) rfl rfl (by decide) rfl (by kernel_rfl) rfl (fun b8 w9 hb8 HS => ?_)
 refine ad_ hK1 ?_
 refine WC.seq fun _ hK10 => ?_
 refine sr_ fun _ hK11 => ?_
 refine v_ (ls_ (HS.mu 3 rfl) underlying58 part_all) ?_
 refine v_ (ls_ (HS.mu 2 rfl) underlying67 part_all) ?_
 obtain ⟨t12, ha13, H⟩ := bind_some H
 refine cs_ HS func52 (spec_TableOk.runs k (⟨x0.f0, x0.f1⟩ : S58) A0_0 c0_0 A0_1 c0_1 (⟨x1.f0, x1.f1⟩ : S67) A1_0 c1_0 t12 _ (HS.getO 0 rfl) hc0_0 (HS.getO 1 rfl) hc0_1 (HS.getO 2 rfl) hc1_0 ha13) (fun w14 HS => ?_)
 clear ha13
 refine nt_ ?_
 refine dn_ hK11 ?_
 rcases eti_ H with ⟨c15, H⟩ | ⟨c15, H⟩
 · refine wy_ (nB (bF c15)) (sr_ fun _ hK82 => ?_)
   refine v_ (Run.build (cells := #[sn, sn]) rfl [] trivial (by kernel_rfl)) ?_
   refine v_ (Run.build (cells := #[sn, vi 0]) rfl [] trivial (by kernel_rfl)) ?_
   refine WL.storeW HS 1 rfl rfl rfl rfl rfl rfl (oneL rfl) (by kernel_rfl) rfl (fun w83 HS => ?_)
   dsimp only [List.set] at HS
   refine WL.storeW HS 0 rfl rfl rfl rfl rfl rfl (oneL rfl) (by kernel_rfl) rfl (fun w84 HS => ?_)
   dsimp only [List.set] at HS
   refine ad_ hK82 ?_
   obtain ⟨rfl, rfl, rfl⟩ := (by have h_ := os H; simp only [Prod.mk.injEq] at h_; exact h_)
   exact rt3 Try.f71 rfl ⟨_, rfl, resv_box (HS.mu 1 rfl) underlying58 rfl (by kernel_rfl)⟩ ⟨_, rfl, resv_box (HS.mu 0 rfl) underlying67 rfl (by kernel_rfl)⟩ rfl hR_ ⟨_, _, _, _, _, _, rfl, (Nat.le_refl _), (fun W_ _ => Kd.C_nil _ _), (Nat.le_refl _), (fun W_ _ => Kd.C_nil _ _), (Nat.le_refl _), (fun W_ _ => Kd.C_nil _ _), HS.b⟩
 refine wn_ (nB c15) (WC.skip (via_ hK10 (sr_ fun _ hK16 => ?_)))
 refine v_ (ls_ (HS.mu 3 rfl) underlying58 part_all) ?_
 obtain ⟨t17, ha18, H⟩ := bind_some H
 refine c_ func111 (spec_l15Copy.runs k (⟨x0.f0, x0.f1⟩ : S58) A0_0 c0_0 A0_1 c0_1 t17 _ (HS.getO 0 rfl) hc0_0 (HS.getO 1 rfl) hc0_1 ha18) ?_
 clear ha18
 rintro _ w19 ⟨A20, c21, A24, c25, rfl, le22, hf23, le26, hf27, hb⟩
 replace HS := HS.newNs hb (foot_cons hf23 (foot_cons hf27 foot_nil))
 refine ⟨_, rfl, ?_⟩
 clear hb
 refine WL.alloc HS (v := .agg #[sn, sn]) (cs := #[sn, sn]) rfl rfl (by decide) rfl (by kernel_rfl) rfl (fun b28 w29 hb28 HS => ?_)
 refine WL.storeW HS 0 rfl rfl rfl rfl rfl rfl (oneL rfl) (by kernel_rfl) rfl (fun w30 HS => ?_)
 dsimp only [List.set] at HS
 refine dn_ hK16 (WC.seq fun K31 hK31 => ?_)
 refine sr_ fun _ hK32 => ?_
 refine ad_ hK32 ?_
 refine WC.block ?_
 obtain ⟨G33, hG34, oc35, H, Ho36⟩ := open_G H
 let J42 := fun (i37 : Int) (xs38 : List Int) A39 (c40 : Nat) (E_ : Env) (W_ : World) => E_ = [(3, .pointer (some ⟨b4, 0, none⟩)), (4, .pointer (some ⟨b6, 0, none⟩)), (5, .pointer (some ⟨b8, 0, none⟩)), (7, .pointer (some ⟨b28, 0, none⟩)), (8, vi i37)] ∧ xs38.length ≤ c40 ∧ St (fun _ => True) w W_ [boxM b28 #[.slice A39 xs38.length c40, .slice A24 t17.f1.length c25] 58, boxM b8 #[sn, vi 0] 67, boxM b6 #[sn, sn] 58, boxM b4 #[.slice A1_0 x1.f0.length c1_0, vi x1.f1] 67, boxM b2 #[.slice A0_0 x0.f0.length c0_0, .slice A0_1 x0.f1.length c0_1] 58] [(cF kI A0_0 x0.f0), (cF kS62 A0_1 x0.f1), (cF kI A1_0 x1.f0)] [(cF kI A39 xs38), (cF kS62 A24 t17.f1)]
 have X43 : ∀ E_ W_, (∃ i37 xs38 A39 c40, G33 (Sum.inr (i37, xs38)) = some (r1, r2, r3) ∧ J42 i37 xs38 A39 c40 E_ W_) → ∀ a, Fits a 46 E_ → K31 a W_ := by
   rintro E_ w44 ⟨i37, xs38, A39, c40, H, rfl, le41, HS⟩
   rw [hG34] at H
   (try dsimp only at H)
   refine hK31 _ _ ?_
   refine WC.seq fun _ hK45 => ?_
   refine WC.drawW HS [boxM b28 #[.slice A39 xs38.length c40, .slice A24 t17.f1.length c25] 58, boxM b4 #[.slice A1_0 x1.f0.length c1_0, vi x1.f1] 67, boxM b2 #[.slice A0_0 x0.f0.length c0_0, .slice A0_1 x0.f1.length c0_1] 58] (fun _ HS => ⟨(HS.mu 0 rfl), (HS.mu 3 rfl), (HS.mu 4 rfl), trivial⟩) [] rfl rfl (fun w46 HS => ?_)
   refine dt_ 0 ⟨HS.nowO, HS.nowN, ⟨(HS.mu 0 rfl), (HS.mu 3 rfl), (HS.mu 4 rfl), trivial⟩⟩ (fun w_ hw_ => Run.loadS (cs := [.slice A39 xs38.length c40, .slice A24 t17.f1.length c25]) rfl rfl underlying58 rfl (by kernel_rfl) (box_part hw_.2.2.1 part_all)) ?_
   refine dt_ 1 ⟨HS.nowO, HS.nowN, ⟨(HS.mu 0 rfl), (HS.mu 3 rfl), (HS.mu 4 rfl), trivial⟩⟩ (fun w_ hw_ => Run.loadS (cs := [.slice A1_0 x1.f0.length c1_0, vi x1.f1]) rfl rfl underlying67 rfl (by kernel_rfl) (box_part hw_.2.2.2.1 part_all)) ?_
   obtain ⟨t47, ha48, H⟩ := bind_some H
   refine dc_ 2 (w_none rfl) func112 (spec_l15CopyTable.runs k (⟨x1.f0, x1.f1⟩ : S67) A1_0 c1_0 t47 _ (HS.getO 2 rfl) hc1_0 ha48) ?_
   clear ha48
   rintro _ w49 ⟨A50, c51, rfl, le52, hf53, hb⟩
   replace HS := HS.newNs hb (foot_cons hf53 foot_nil)
   refine ⟨⟨HS.nowO, HS.nowN.2, ⟨(HS.mu 0 rfl), (HS.mu 3 rfl), (HS.mu 4 rfl), trivial⟩⟩, _, rfl, ?_⟩
   clear hb
   refine WD.storeS 3 HS 2 rfl rfl rfl rfl (oneL rfl) (by kernel_rfl) (ble_ rfl) (cs' := #[.slice A39 xs38.length c40, .slice A24 t17.f1.length c25]) (by kernel_rfl) (fun w54 HS => ?_)
   dsimp only [List.set] at HS
   refine ⟨⟨HS.nowO, HS.nowN.2, ⟨(HS.mu 0 rfl), (HS.mu 3 rfl), (HS.mu 4 rfl), trivial⟩⟩, ?_⟩
   refine WD.storeS 4 HS 1 rfl rfl rfl rfl (oneL rfl) (by kernel_rfl) (ble_ rfl) (cs' := #[.slice A50 t47.f0.length c51, vi t47.f1]) (by kernel_rfl) (fun w55 HS => ?_)
   dsimp only [List.set] at HS
   refine ⟨⟨HS.nowO, HS.nowN.2, ⟨(HS.mu 0 rfl), (HS.mu 3 rfl), (HS.mu 4 rfl), trivial⟩⟩, ?_⟩
   refine dp_ 5 (fun _ => Run.assign rfl rfl) ?_
   refine dd_ (via_ hK45 ?_)
   obtain ⟨rfl, rfl, rfl⟩ := (by have h_ := os H; simp only [Prod.mk.injEq] at h_; exact h_)
   exact rt3 Try.f71 rfl ⟨_, rfl, resv_box (HS.mu 2 rfl) underlying58 rfl (by kernel_rfl)⟩ ⟨_, rfl, resv_box (HS.mu 1 rfl) underlying67 rfl (by kernel_rfl)⟩ rfl hR_ ⟨_, _, _, _, _, _, rfl, le41, (foot_fresh (HS.footN 1 rfl)), le26, (foot_fresh (HS.footN 2 rfl)), le52, (foot_fresh (HS.footN 0 rfl)), HS.b⟩
 clear hK31
 refine WC.loop (fun k_ E_ W_ => ∃ i37 xs38 A39 c40, (∃ o_, spec_ForkTable.l0 x1 k_ i37 xs38 = some o_ ∧ G33 o_ = some (r1, r2, r3)) ∧ J42 i37 xs38 A39 c40 E_ W_) k ⟨0, t17.f0, A20, c21, ⟨_, H, Ho36⟩, rfl, le22, HS⟩ (sb rfl) ?_
 rintro k_ E_ w57 ⟨i37, xs38, A39, c40, ⟨oc35, H, Ho36⟩, rfl, le41, HS⟩
 rcases k_ with _ | k58
 · exact no_ H
 replace H : spec_ForkTable.b0 x1 (spec_ForkTable.l0 x1 k58) k58 i37 xs38 = some oc35 := H
 unfold spec_ForkTable.b0 at H
 refine WC.seq fun _ hK59 => ?_
 refine sr_ fun _ hK60 => ?_
 refine mv_ ?_
 refine v_ (fa_ underlying67) ?_
 refine v_ (lb_ (HS.mu 3 rfl) underlying22 rfl) ?_
 refine ln_ underlying22 ?_
 refine b_ bin_lss ?_
 refine dn_ hK60 ?_
 rcases eti_ H with ⟨c61, H⟩ | ⟨c61, H⟩
 · refine wn_ (dF c61) (WC.exit ?_)
   obtain rfl := os H
   exact wv_ iq X43 ⟨i37, xs38, A39, c40, Ho36, rfl, le41, HS⟩
 refine wy_ (dT c61) (WC.skip (via_ hK59 (WC.seq fun _ hK62 => ?_)))
 refine WC.block (WC.seq fun _ hK63 => ?_)
 refine WC.drawS HS [] rfl rfl (fun w64 HS => ?_)
 have HB := Below.refl w64.heap.size w64
 have HSW := HS
 refine df_ 0 underlying58 ?_
 refine df_ 2 underlying67 ?_
 refine dm_ 4 ?_
 refine bl_ 1 HS (Below.refl _ _) 0 underlying22 rfl ?_
 refine bl_ 3 HS (Below.refl _ _) 3 underlying22 rfl ?_
 obtain ⟨⟨q65, q66⟩, H⟩ := if_some H
 obtain ⟨ad67, rfl⟩ := C_open (HS.getO 2 rfl) (by omega)
 refine di_ 5 underlying22 1 q65 q66 ?_
 refine dt_ 6 (Below.refl _ _) (fun w_ hw_ => Run.load rfl rfl underlying3 rfl (int_cell ((HS.below hw_).getO 2 rfl) i37 q65 q66)) ?_
 obtain ⟨t68, ha69, H⟩ := bind_some H
 refine dc_ 7 (w_none rfl) func132 (spec_SharePage.runs k58 A39 c40 xs38 (x1.f0.getD i37.toNat 0) t68.1 t68.2 _ (HS.getN 0 rfl) le41 ha69) ?_
 clear ha69
 rintro _ w70 ⟨A71, c72, rfl, le73, hf74, hb⟩
 replace HB := HB.trans (hb.mono HB.size)
 replace HS := HS.newNs hb (foot_cons hf74 foot_nil)
 refine ⟨HB, _, rfl, ?_⟩
 clear hb
 refine dm_ 8 ?_
 refine dp_ 9 (fun _ => Run.extract rfl rfl rfl) ?_
 refine dp_ 10 (fun _ => Run.extract rfl rfl rfl) ?_
 refine dp_ 11 (fun _ => Run.assign rfl rfl) ?_
 refine dp_ 12 (fun _ => Run.assign rfl rfl) ?_
 refine dd_ ?_
 clear HB HSW
 refine via_ hK63 (WC.seq fun _ hK75 => ?_)
 refine sr_ fun _ hK76 => ?_
 refine mv_ ?_
 refine nt_ ?_
 refine dn_ hK76 ?_
 rcases ite_ H with ⟨c77, H⟩ | ⟨c77, H⟩
 · refine wn_ (nB c77) (WC.skip (via_ hK75 (rg_ (mv_ ?_))))
   refine v_ (fa_ underlying58) ?_
   refine WL.store HS 0 rfl rfl rfl rfl rfl rfl rfl (by kernel_rfl) (ble_ rfl) (cs' := #[.slice A71 t68.1.length c72, .slice A24 t17.f1.length c25]) (by kernel_rfl) (fun w78 HS => ?_)
   dsimp only [List.set] at HS
   refine dn_ hK62 (rg_ (mv_ ?_))
   refine b_ bin_add64 ?_
   refine as_ ?_
   refine WL.done ?_
   exact wr_ k58 iq ⟨(wrap64 (i37 + 1)), t68.1, A71, c72, ⟨_, H, Ho36⟩, rfl, le73, (St.pk HS [0, 1, 2] [0, 2] rfl rfl)⟩
 refine wy_ (nB (bF c77)) (sr_ fun _ hK79 => ?_)
 refine v_ (Run.build (cells := #[sn, sn]) rfl [] trivial (by kernel_rfl)) ?_
 refine v_ (Run.build (cells := #[sn, vi 0]) rfl [] trivial (by kernel_rfl)) ?_
 refine WL.storeW HS 2 rfl rfl rfl rfl rfl rfl (oneL rfl) (by kernel_rfl) rfl (fun w80 HS => ?_)
 dsimp only [List.set] at HS
 refine WL.storeW HS 1 rfl rfl rfl rfl rfl rfl (oneL rfl) (by kernel_rfl) rfl (fun w81 HS => ?_)
 dsimp only [List.set] at HS
 refine ad_ hK79 ?_
 refine WC.ret ?_
 obtain rfl := os H
 rw [hG34] at Ho36
 replace H : some _ = some _ := Ho36
 obtain ⟨rfl, rfl, rfl⟩ := (by have h_ := os H; simp only [Prod.mk.injEq] at h_; exact h_)
 exact fin3 Try.f71 rfl ⟨_, rfl, resv_box (HS.mu 2 rfl) underlying58 rfl (by kernel_rfl)⟩ ⟨_, rfl, resv_box (HS.mu 1 rfl) underlying67 rfl (by kernel_rfl)⟩ rfl hR_ ⟨_, _, _, _, _, _, rfl, (Nat.le_refl _), (fun W_ _ => Kd.C_nil _ _), (Nat.le_refl _), (fun W_ _ => Kd.C_nil _ _), (Nat.le_refl _), (fun W_ _ => Kd.C_nil _ _), HS.b⟩
def impl_cloneStore.b0 (x0 : S58) (rec_ : Int → (List (List S62)) → Option (Int × (List (List S62)))) (k39 : Nat) (i25 : Int) (xs26 : List (List S62)) : Option (Int × (List (List S62))) := (if i25 < (x0.f1.length : Int) then (if 0 ≤ i25 ∧ i25 < (x0.f1.length : Int) then ((impl_cloneCells.g k39 (x0.f1.getD i25.toNat [])).bind fun t54 => (if (xs26.length) < 4294967296 then (rec_ (wrap64 (i25 + 1)) (xs26 ++ [t54])) else none)) else none) else (some (i25, xs26)))
def impl_cloneStore.l0 (x0 : S58) : Nat → Int → (List (List S62)) → Option (Int × (List (List S62)))
 | 0, _, _ => none
 | k + 1, i25, xs26 => impl_cloneStore.b0 x0 (impl_cloneStore.l0 x0 k) k i25 xs26
def impl_cloneStore.g (k : Nat) (x0 : S58) : Option S58 := ((slices_Clone_int_int.g k x0.f0).bind fun t7 => ((impl_cloneStore.l0 x0 k 0 ([] : List (List S62))).bind (fun oc37 => (some (⟨t7, oc37.2⟩ : S58)))))
theorem impl_cloneStore.runs (k : Nat) (x0 : S58) (A0_0 : Option Addr) (c0_0 : Nat) (A0_1 : Option Addr) (c0_1 : Nat) (r : S58) (w : World) (hr0_0 : kI.C w A0_0 x0.f0.length x0.f0) (hc0_0 : x0.f0.length ≤ c0_0) (hr0_1 : kS62.C w A0_1 x0.f1.length x0.f1) (hc0_1 : x0.f1.length ≤ c0_1) (H : impl_cloneStore.g k x0 = some r) :
   Calls prog 105 #[.agg #[.slice A0_0 x0.f0.length c0_0, .slice A0_1 x0.f1.length c0_1]] w fun e w' => ∃ (v0_0_ : Value) (bl0_0_ : List Nat) (v0_1_ : Value) (bl0_1_ : List Nat), e = .returned (.agg #[v0_0_, v0_1_]) ∧ Owns w' w.heap.size [valM (Dk.slice 3 (Dk.int .i64)) r.f0 [v0_0_] bl0_0_, valM (Dk.slice 71 (Dk.slice 62 dq62)) r.f1 [v0_1_] bl0_1_] ∧ Below w.heap.size w w' := by
 unfold impl_cloneStore.g at H
 have HS : St (fun _ => True) w w [] [(cF kI A0_0 x0.f0), (cF kS62 A0_1 x0.f1)] [] := St.start (foot_cons (foot_C (Kd.heap_int _) hr0_0) (foot_cons (foot_C (Kd.heap_slice _ h62) hr0_1) foot_nil))
 refine cw_ (n := 26) func105 fun R_ hR_ => ?_
 refine sr_ fun _ hK1 => ?_
 refine bo_ HS (fun b2 w3 hb2 HS => ?_)
 refine WL.alloc HS (v := .agg #[sn, sn]) (cs := #[sn, sn]) rfl rfl (by decide) rfl (by kernel_rfl) rfl (fun b4 w5 hb4 HS => ?_)
 refine dn_ hK1 (sr_ fun _ hK6 => ?_)
 refine v_ (fa_ underlying58) ?_
 refine v_ (lb_ (HS.mu 1 rfl) underlying22 rfl) ?_
 obtain ⟨t7, ha8, H⟩ := bind_some H
 refine c_ func78 (slices_Clone_int_int.runs k A0_0 c0_0 x0.f0 t7 _ (HS.getO 0 rfl) hc0_0 ha8) ?_
 clear ha8
 rintro _ w9 ⟨v10, bl11, rfl, hO_, hb⟩
 replace HS := HS.got hb hO_
 dsimp only [List.cons_append, List.nil_append] at HS
 clear hO_
 obtain ⟨I12, bl13, HS⟩ := HS.unseal (sz := 1) rfl
 replace HS := HS.freezeN 1 (p := (rF kI t7 I12)) rfl (fun _ hP_ _ => RepsB.reps hP_)
 dsimp only [List.eraseIdx] at HS
 refine ⟨_, rfl, ?_⟩
 clear hb
 obtain ⟨A14, c15, rfl⟩ := row_slice (HS.mu 0 rfl)
 refine v_ (Run.build (cells := #[(.slice A14 t7.length c15), sn]) rfl [(0, (.slice A14 t7.length c15))] ⟨⟨rfl, rfl⟩, trivial⟩ (by kernel_rfl)) ?_
 refine WL.alloc HS (v := .agg #[sn, sn]) (cs := #[sn, sn]) rfl rfl (by decide) rfl (by kernel_rfl) rfl (fun b16 w17 hb16 HS => ?_)
 refine WL.storeW HS 0 rfl rfl rfl rfl rfl rfl (oneL rfl) (by kernel_rfl) rfl (fun w18 HS => ?_)
 dsimp only [List.set] at HS
 refine dn_ hK6 (WC.seq fun K19 hK19 => ?_)
 refine sr_ fun _ hK20 => ?_
 refine v_ (fa_ underlying58) ?_
 refine v_ (lb_ (HS.mu 3 rfl) underlying56 rfl) ?_
 refine ln_ underlying56 ?_
 refine mv_ ?_
 refine dn_ hK20 (WC.block ?_)
 replace HS := HS.rowNil 71 1
 replace HS := HS.els0 (Dk.slice 62 dq62)
 obtain ⟨G21, hG22, oc23, H, Ho24⟩ := open_G H
 let J30 := fun (i25 : Int) (xs26 : List (List S62)) v27 I28 bl29 (E_ : Env) (W_ : World) => E_ = [(2, .pointer (some ⟨b4, 0, none⟩)), (3, .pointer (some ⟨b16, 0, none⟩)), (11, .slice A0_1 x0.f1.length c0_1), (12, vi (x0.f1.length : Int)), (13, vi i25)] ∧ St (fun _ => True) w W_ [elsM (Dk.slice 62 dq62) xs26 I28 bl29, rowM w.heap.size 71 1 v27 xs26.length I28, boxM b16 #[(.slice A14 t7.length c15), v27] 58, rowM w.heap.size 3 1 (.slice A14 t7.length c15) t7.length I12, boxM b4 #[sn, sn] 58, boxM b2 #[.slice A0_0 x0.f0.length c0_0, .slice A0_1 x0.f1.length c0_1] 58] [(cF kI A0_0 x0.f0), (cF kS62 A0_1 x0.f1)] [(rF kI t7 I12)]
 have X31 : ∀ E_ W_, (∃ i25 xs26 v27 I28 bl29, G21 (i25, xs26) = some r ∧ J30 i25 xs26 v27 I28 bl29 E_ W_) → ∀ a, Fits a 26 E_ → K19 a W_ := by
   rintro E_ w32 ⟨i25, xs26, v27, I28, bl29, H, rfl, HS⟩
   rw [hG22] at H
   (try dsimp only at H)
   refine hK19 _ _ ?_
   refine sr_ fun _ hK33 => ?_
   obtain ⟨A34, c35, rfl⟩ := row_slice (HS.mu 1 rfl)
   refine v_ (ls_ (HS.mu 2 rfl) underlying58 part_all) ?_
   refine WL.storeW HS 4 rfl rfl rfl rfl rfl rfl (oneL rfl) (by kernel_rfl) rfl (fun w36 HS => ?_)
   dsimp only [List.set] at HS
   refine dn_ hK33 (WC.ret ?_)
   replace HS := HS.elsF (xs := t7) (inner := I12) (Dk.int .i64) (fun _ _ _ h_ => ⟨h_, rfl⟩) (fun _ => (HS.getN 0 rfl))
   replace HS := HS.front 4 rfl
   dsimp only [List.eraseIdx] at HS
   replace HS := HS.seal rfl rfl
   replace HS := HS.front 1 rfl
   dsimp only [List.eraseIdx] at HS
   replace HS := HS.front 2 rfl
   dsimp only [List.eraseIdx] at HS
   replace HS := HS.seal rfl rfl
   obtain rfl := os H
   exact fin1 Try.f105 rfl ⟨_, rfl, resv_box (HS.mu 3 rfl) underlying58 rfl (by kernel_rfl)⟩ hR_ ⟨_, _, _, _, rfl, (St.owns (St.front (St.front (St.forget (St.forget (St.forget HS 4 rfl) 3 rfl) 2 rfl) 0 rfl) 1 rfl)), HS.b⟩
 clear hK19
 refine WC.loop (fun k_ E_ W_ => ∃ i25 xs26 v27 I28 bl29, (∃ o_, impl_cloneStore.l0 x0 k_ i25 xs26 = some o_ ∧ G21 o_ = some r) ∧ J30 i25 xs26 v27 I28 bl29 E_ W_) k ⟨0, ([] : List (List S62)), (sn), ([]), ([]), ⟨_, H, Ho24⟩, rfl, HS⟩ (sb rfl) ?_
 rintro k_ E_ w38 ⟨i25, xs26, v27, I28, bl29, ⟨oc23, H, Ho24⟩, rfl, HS⟩
 rcases k_ with _ | k39
 · exact no_ H
 replace H : impl_cloneStore.b0 x0 (impl_cloneStore.l0 x0 k39) k39 i25 xs26 = some oc23 := H
 unfold impl_cloneStore.b0 at H
 refine sr_ fun _ hK40 => ?_
 refine b_ bin_lss ?_
 refine dn_ hK40 (WC.seq fun _ hK41 => ?_)
 rcases eti_ H with ⟨c42, H⟩ | ⟨c42, H⟩
 · refine wn_ (dF c42) (WC.exit ?_)
   obtain rfl := os H
   exact wv_ iq X31 ⟨i25, xs26, v27, I28, bl29, Ho24, rfl, HS⟩
 refine wy_ (dT c42) (WC.skip (via_ hK41 (WC.seq fun _ hK43 => ?_)))
 refine WC.block (sr_ fun _ hK44 => ?_)
 obtain ⟨⟨q45, q46⟩, H⟩ := if_some H
 obtain ⟨ad47, rfl⟩ := C_open (HS.getO 1 rfl) (by omega)
 refine v_ (ia_ underlying56 1 q45 q46) ?_
 obtain ⟨A48, c49, le50, HS⟩ := HS.slO 1 rfl i25 q45 q46
 refine v_ (Run.load rfl rfl underlying71 rfl (HS.getO 1 rfl)) ?_
 refine ad_ hK44 ?_
 refine WC.drawW HS [boxM b16 #[(.slice A14 t7.length c15), v27] 58, boxM b4 #[sn, sn] 58, boxM b2 #[.slice A0_0 x0.f0.length c0_0, .slice (some ad47) x0.f1.length c0_1] 58] (fun _ HS => ⟨(HS.mu 2 rfl), (HS.mu 4 rfl), (HS.mu 5 rfl), trivial⟩) [7] rfl rfl (fun w51 HS => ?_)
 refine df_ 0 underlying58 ?_
 refine dm_ 2 ?_
 obtain ⟨A52, c53, rfl⟩ := row_slice (HS.mu 1 rfl)
 refine dt_ 1 ⟨HS.nowO, HS.nowN, ⟨(HS.mu 2 rfl), (HS.mu 4 rfl), (HS.mu 5 rfl), trivial⟩⟩ (fun w_ hw_ => Run.load rfl rfl underlying56 rfl (box_cell hw_.2.2.1 rfl)) ?_
 obtain ⟨t54, ha55, H⟩ := bind_some H
 refine dc_ 3 (w_none rfl) func107 (impl_cloneCells.runs k39 A48 c49 (x0.f1.getD i25.toNat []) t54 _ (HS.getO 0 rfl) le50 ha55) ?_
 clear ha55
 rintro _ w56 ⟨v57, bl58, rfl, hO_, hb⟩
 replace HS := HS.got hb hO_
 dsimp only [List.cons_append, List.nil_append] at HS
 clear hO_
 obtain ⟨I59, bl60, HS⟩ := HS.unseal (sz := 2) rfl
 refine ⟨⟨HS.nowO, HS.nowN, ⟨(HS.mu 4 rfl), (HS.mu 6 rfl), (HS.mu 7 rfl), trivial⟩⟩, _, rfl, ?_⟩
 clear hb
 obtain ⟨A61, c62, rfl⟩ := row_slice (HS.mu 0 rfl)
 have HS1 := HS.below (below_alloc (Below.refl _ _) (.cells #[(.slice A61 t54.length c62)] 71))
 refine dv_ 4 (w_none rfl) (Run.lit1 (z := (sn)) (vs := [(.slice A61 t54.length c62)]) rfl rfl rfl underlying56 (by kernel_rfl) (ble_ rfl) (ble_ rfl)) ⟨HS1.nowO, HS1.nowN, ⟨(HS1.mu 4 rfl), (HS1.mu 6 rfl), (HS1.mu 7 rfl), trivial⟩⟩ ?_
 obtain ⟨q63, H⟩ := if_some H
 refine WD.append 5 (w_none rfl) HS1 3 rfl rfl (sn) 24 underlying56 (by kernel_rfl) rfl (by decide) (by decide) rfl rfl [(.slice A61 t54.length c62)] rfl (lit_news _ _ _) (oneL rfl) (by omega) ((xs26 ++ [t54]).length) (by simp) (fun v64 w65 I66 hI67 HS => ?_)
 dsimp only [List.set] at HS
 clear HS1
 replace HS := HS.front 1 rfl
 dsimp only [List.eraseIdx] at HS
 replace HS := HS.front 1 rfl
 dsimp only [List.eraseIdx] at HS
 replace HS := HS.seal rfl rfl
 replace HS := HS.front 1 rfl
 dsimp only [List.eraseIdx] at HS
 replace HS := HS.front 1 rfl
 dsimp only [List.eraseIdx] at HS
 replace HS := HS.elsSnoc hI67
 refine ⟨⟨HS.nowO, HS.nowN, ⟨(HS.mu 2 rfl), (HS.mu 4 rfl), (HS.mu 5 rfl), trivial⟩⟩, ?_⟩
 refine df_ 6 underlying58 ?_
 obtain ⟨A69, c70, rfl⟩ := row_slice (HS.mu 1 rfl)
 refine WD.storeL 7 HS 2 rfl rfl rfl rfl rfl (by kernel_rfl) (ble_ rfl) (cs' := #[(.slice A14 t7.length c15), (.slice A69 ((xs26 ++ [t54]).length) c70)]) (by kernel_rfl) (fun w68 HS => ?_)
 dsimp only [List.set] at HS
 refine dd_ (via_ hK43 (rg_ (b_ bin_add64 ?_)))
 refine mv_ ?_
 refine WL.done ?_
 exact wr_ k39 iq ⟨(wrap64 (i25 + 1)), (xs26 ++ [t54]), (.slice A69 ((xs26 ++ [t54]).length) c70), I66, (bl29 ++ (((.slice A61 t54.length c62) : Value).ownBlock.toList ++ bl60)), ⟨_, H, Ho24⟩, rfl, (St.pk HS [2, 3] [0] rfl rfl)⟩
def impl_moved.g (k : Nat) (l0 : List Int) (a1 : Int) (a2 : Int) : Option ((List Int) × Bool) := ((impl_PoolOk.g k l0).bind fun t4 => (if t4 = true then ((impl_in.f a1 0 (wrap64 ((l0.length : Int) - 1))).bind fun t8 => (if t8 = true then (if 0 ≤ a1 ∧ a1 < (l0.length : Int) then (if (l0.getD a1.toNat 0) = 0 then (some ([], false)) else ((slices_Clone_int_int.g k l0).bind fun t18 => (if 0 ≤ a1 ∧ a1 < ((t18.length : Nat) : Int) then ((impl_PoolOk.g k (t18.set a1.toNat (wrap64 ((t18.getD a1.toNat 0) + a2)))).bind fun t40 => (if t40 = true then (some ((t18.set a1.toNat (wrap64 ((t18.getD a1.toNat 0) + a2))), true)) else (some ([], false)))) else none))) else none) else (some ([], false)))) else (some ([], false))))
theorem impl_moved.runs (k : Nat) (A0 : Option Addr) (c0 : Nat) (l0 : List Int) (a1 : Int) (a2 : Int) (r1 : List Int) (r2 : Bool) (w : World) (hr0 : kI.C w A0 l0.length l0) (hc0 : l0.length ≤ c0) (H : impl_moved.g k l0 a1 a2 = some (r1, r2)) :
   Calls prog 149 #[.slice A0 l0.length c0, vi a1, vi a2] w fun e w' => ∃ (v0_ : Value) (bl0_ : List Nat), e = .returned (.tuple #[v0_, .bool r2]) ∧ Owns w' w.heap.size [valM (Dk.slice 3 (Dk.int .i64)) r1 [v0_] bl0_] ∧ Below w.heap.size w w' := by
 unfold impl_moved.g at H
 have HS : St (fun _ => True) w w [] [(cF kI A0 l0)] [] := St.start (foot_cons (foot_C (Kd.heap_int _) hr0) foot_nil)
 refine cw_ (n := 40) func149 fun R_ hR_ => ?_
 refine sr_ fun _ hK1 => ?_
 refine as_ ?_
 refine ad_ hK1 ?_
 refine WC.seq fun _ hK2 => ?_
 refine sr_ fun _ hK3 => ?_
 refine mv_ ?_
 obtain ⟨t4, ha5, H⟩ := bind_some H
 refine cs_ HS func117 (impl_PoolOk.runs k A0 c0 l0 t4 _ (HS.getO 0 rfl) hc0 ha5) (fun w6 HS => ?_)
 clear ha5
 refine nt_ ?_
 refine mv_ ?_
 rcases eti_ H with ⟨c7, H⟩ | ⟨c7, H⟩
 · refine off_ (c' := true) (nB (bF c7)) ?_
   refine WL.know 12 (nB (bF c7)) ?_
   refine fast_ ?_
   refine via_ hK3 (wy_ rfl ?_)
   refine sr_ fun _ hK47 => ?_
   refine as_ ?_
   refine ad_ hK47 ?_
   refine WC.ret ?_
   replace HS := HS.nilV (α := Int) 3 (Dk.int .i64)
   obtain ⟨rfl, rfl⟩ := Prod.mk.inj (os H)
   exact fin2 Try.f149 rfl rfl rfl hR_ ⟨_, _, rfl, (St.owns HS), HS.b⟩
 refine on_ (nB c7) (mv_ ?_)
 refine on_ (nB c7) (mv_ ?_)
 refine on_ (nB c7) (ln_ underlying22 ?_)
 refine on_ (nB c7) (b_ bin_sub64 ?_)
 refine on_ (nB c7) ?_
 obtain ⟨t8, ha9, H⟩ := bind_some H
 refine cs0_ HS func77 (impl_in.calls a1 0 (wrap64 ((l0.length : Int) - 1)) t8 _ ha9) (fun w10 HS => ?_)
 clear ha9
 refine on_ (nB c7) (nt_ ?_)
 refine v_ (Run.pickF rfl rfl (nB c7) rfl) ?_
 refine mv_ ?_
 rcases eti_ H with ⟨c11, H⟩ | ⟨c11, H⟩
 · refine off_ (c' := true) (nB (bF c11)) ?_
   refine WL.know 20 (nB (bF c11)) ?_
   refine fast_ ?_
   refine via_ hK3 (wy_ rfl ?_)
   refine sr_ fun _ hK46 => ?_
   refine as_ ?_
   refine ad_ hK46 ?_
   refine WC.ret ?_
   replace HS := HS.nilV (α := Int) 3 (Dk.int .i64)
   obtain ⟨rfl, rfl⟩ := Prod.mk.inj (os H)
   exact fin2 Try.f149 rfl rfl rfl hR_ ⟨_, _, rfl, (St.owns HS), HS.b⟩
 refine on_ (nB c11) (mv_ ?_)
 refine on_ (nB c11) (mv_ ?_)
 refine on_ (nB c11) ?_
 obtain ⟨⟨q12, q13⟩, H⟩ := if_some H
 obtain ⟨ad14, rfl⟩ := C_open (HS.getO 0 rfl) (by omega)
 refine v_ (ia_ underlying22 1 q12 q13) ?_
 refine on_ (nB c11) (v_ (Run.load rfl rfl underlying3 rfl (int_cell (HS.getO 0 rfl) a1 q12 q13)) ?_)
 refine on_ (nB c11) (b_ bin_eql ?_)
 refine v_ (Run.pickF rfl rfl (nB c11) rfl) ?_
 refine dn_ hK3 ?_
 rcases ite_ H with ⟨c15, H⟩ | ⟨c15, H⟩
 · refine wy_ (eT c15) (sr_ fun _ hK16 => ?_)
   refine as_ ?_
   refine ad_ hK16 ?_
   refine WC.ret ?_
   replace HS := HS.nilV (α := Int) 3 (Dk.int .i64)
   obtain ⟨rfl, rfl⟩ := Prod.mk.inj (os H)
   exact fin2 Try.f149 rfl rfl rfl hR_ ⟨_, _, rfl, (St.owns HS), HS.b⟩
 refine wn_ (eF c15) (WC.skip (via_ hK2 (sr_ fun _ hK17 => ?_)))
 refine mv_ ?_
 obtain ⟨t18, ha19, H⟩ := bind_some H
 refine c_ func78 (slices_Clone_int_int.runs k (some ad14) c0 l0 t18 _ (HS.getO 0 rfl) hc0 ha19) ?_
 clear ha19
 rintro _ w20 ⟨v21, bl22, rfl, hO_, hb⟩
 replace HS := HS.got hb hO_
 dsimp only [List.cons_append, List.nil_append] at HS
 clear hO_
 obtain ⟨I23, bl24, HS⟩ := HS.unseal (sz := 1) rfl
 replace HS := HS.freezeN 1 (p := (rF kI t18 I23)) rfl (fun _ hP_ _ => RepsB.reps hP_)
 dsimp only [List.eraseIdx] at HS
 refine ⟨_, rfl, ?_⟩
 clear hb
 refine ad_ hK17 ?_
 refine sr_ fun _ hK25 => ?_
 refine mv_ ?_
 refine mv_ ?_
 obtain ⟨⟨q26, q27⟩, H⟩ := if_some H
 obtain ⟨A28, c29, rfl⟩ := row_slice (HS.mu 0 rfl)
 obtain ⟨ad30, rfl⟩ := row_open (HS.mu 0 rfl) (by omega)
 refine v_ (ia_ underlying22 1 q26 q27) ?_
 refine v_ (Run.load rfl rfl underlying3 rfl (row_int (HS.mu 0 rfl) (HS.getN 0 rfl) q26 q27)) ?_
 refine mv_ ?_
 refine b_ bin_add64 ?_
 refine v_ (ia_ underlying22 1 q26 q27) ?_
 have hk_ := mul_room q26 q27 1
 refine WL.putEl HS 0 rfl rfl rfl rfl rfl rfl [vi (wrap64 ((t18.getD a1.toNat 0) + a2))] rfl (oneL rfl) (by kernel_rfl) (by first | omega | (rw [List.length_nil]; omega) | (simp; omega)) (fun w31 I32 hI33 HS => ?_)
 dsimp only [List.set] at HS
 clear hk_
 replace HS := HS.deriveN (p := (rF kI (t18.set a1.toNat (wrap64 ((t18.getD a1.toNat 0) + a2))) I32)) (fun W_ hN_ => reps_set hI33 hN_.1 (K_int _) (toNat_lt q26 q27))
 replace HS := HS.rowN 0 rfl (show t18.length = (t18.set a1.toNat (wrap64 ((t18.getD a1.toNat 0) + a2))).length from (List.length_set ..).symm)
 dsimp only [List.set] at HS
 generalize hv35 : (Value.slice (some ad30) t18.length c29) = v34 at HS ⊢
 refine dn_ hK25 (WC.seq fun _ hK36 => ?_)
 refine sr_ fun _ hK37 => ?_
 refine mv_ ?_
 obtain ⟨A38, c39, rfl⟩ := row_slice (HS.mu 0 rfl)
 obtain ⟨t40, ha41, H⟩ := bind_some H
 refine cs_ HS func117 (impl_PoolOk.runs k A38 c39 (t18.set a1.toNat (wrap64 ((t18.getD a1.toNat 0) + a2))) t40 _ (row_C rfl (HS.mu 0 rfl) (HS.getN 0 rfl)) (row_le (HS.mu 0 rfl)) ha41) (fun w42 HS => ?_)
 clear ha41
 refine nt_ ?_
 refine dn_ hK37 ?_
 rcases eti_ H with ⟨c43, H⟩ | ⟨c43, H⟩
 · refine wy_ (nB (bF c43)) (sr_ fun _ hK45 => ?_)
   refine as_ ?_
   refine ad_ hK45 ?_
   refine WC.ret ?_
   replace HS := HS.nilV (α := Int) 3 (Dk.int .i64)
   obtain ⟨rfl, rfl⟩ := Prod.mk.inj (os H)
   exact fin2 Try.f149 rfl rfl rfl hR_ ⟨_, _, rfl, (St.owns (St.forget HS 1 rfl)), HS.b⟩
 refine wn_ (nB c43) (WC.skip (via_ hK36 (sr_ fun _ hK44 => ?_)))
 refine fast_ ?_
 refine via_ hK44 (WC.ret ?_)
 replace HS := HS.elsF (xs := (t18.set a1.toNat (wrap64 ((t18.getD a1.toNat 0) + a2)))) (inner := I32) (Dk.int .i64) (fun _ _ _ h_ => ⟨h_, rfl⟩) (fun _ => (HS.getN 0 rfl))
 replace HS := HS.front 1 rfl
 dsimp only [List.eraseIdx] at HS
 replace HS := HS.seal rfl rfl
 obtain ⟨rfl, rfl⟩ := Prod.mk.inj (os H)
 exact fin2 Try.f149 rfl rfl rfl hR_ ⟨_, _, rfl, (St.owns HS), HS.b⟩
def impl_SharePage.g (k : Nat) (l0 : List Int) (a1 : Int) : Option ((List Int) × Bool) := ((impl_moved.g k l0 a1 1).bind fun t3 => (some (t3.1, t3.2)))
theorem impl_SharePage.runs (k : Nat) (A0 : Option Addr) (c0 : Nat) (l0 : List Int) (a1 : Int) (r1 : List Int) (r2 : Bool) (w : World) (hr0 : kI.C w A0 l0.length l0) (hc0 : l0.length ≤ c0) (H : impl_SharePage.g k l0 a1 = some (r1, r2)) :
   Calls prog 123 #[.slice A0 l0.length c0, vi a1] w fun e w' => ∃ (v0_ : Value) (bl0_ : List Nat), e = .returned (.tuple #[v0_, .bool r2]) ∧ Owns w' w.heap.size [valM (Dk.slice 3 (Dk.int .i64)) r1 [v0_] bl0_] ∧ Below w.heap.size w w' := by
 unfold impl_SharePage.g at H
 have HS : St (fun _ => True) w w [] [(cF kI A0 l0)] [] := St.start (foot_cons (foot_C (Kd.heap_int _) hr0) foot_nil)
 refine cw_ (n := 11) func123 fun R_ hR_ => ?_
 refine sr_ fun _ hK1 => ?_
 refine as_ ?_
 refine ad_ hK1 ?_
 refine sr_ fun _ hK2 => ?_
 refine mv_ ?_
 refine mv_ ?_
 obtain ⟨t3, ha4, H⟩ := bind_some H
 refine c_ func149 (impl_moved.runs k A0 c0 l0 a1 1 t3.1 t3.2 _ (HS.getO 0 rfl) hc0 ha4) ?_
 clear ha4
 rintro _ w5 ⟨v6, bl7, rfl, hO_, hb⟩
 replace HS := HS.got hb hO_
 dsimp only [List.cons_append, List.nil_append] at HS
 clear hO_
 obtain ⟨I8, bl9, HS⟩ := HS.unseal (sz := 1) rfl
 replace HS := HS.freezeN 1 (p := (rF kI t3.1 I8)) rfl (fun _ hP_ _ => RepsB.reps hP_)
 dsimp only [List.eraseIdx] at HS
 refine ⟨_, rfl, ?_⟩
 clear hb
 refine v_ (Run.extract rfl rfl rfl) ?_
 refine v_ (Run.extract rfl rfl rfl) ?_
 refine as_ ?_
 refine ad_ hK2 ?_
 refine WC.ret ?_
 obtain ⟨A10, c11, rfl⟩ := row_slice (HS.mu 0 rfl)
 replace HS := HS.elsF (xs := t3.1) (inner := I8) (Dk.int .i64) (fun _ _ _ h_ => ⟨h_, rfl⟩) (fun _ => (HS.getN 0 rfl))
 replace HS := HS.front 1 rfl
 dsimp only [List.eraseIdx] at HS
 replace HS := HS.seal rfl rfl
 obtain ⟨rfl, rfl⟩ := Prod.mk.inj (os H)
 exact fin2 Try.f123 rfl rfl rfl hR_ ⟨_, _, rfl, (St.owns HS), HS.b⟩
def impl_cloneTable.g (k : Nat) (x0 : S67) : Option S67 := ((slices_Clone_int_int.g k x0.f0).bind fun t8 => (some (⟨t8, x0.f1⟩ : S67)))
theorem impl_cloneTable.runs (k : Nat) (x0 : S67) (A0_0 : Option Addr) (c0_0 : Nat) (r : S67) (w : World) (hr0_0 : kI.C w A0_0 x0.f0.length x0.f0) (hc0_0 : x0.f0.length ≤ c0_0) (H : impl_cloneTable.g k x0 = some r) :
   Calls prog 106 #[.agg #[.slice A0_0 x0.f0.length c0_0, vi x0.f1]] w fun e w' => ∃ (v0_0_ : Value) (bl0_0_ : List Nat), e = .returned (.agg #[v0_0_, vi r.f1]) ∧ Owns w' w.heap.size [valM (Dk.slice 3 (Dk.int .i64)) r.f0 [v0_0_] bl0_0_] ∧ Below w.heap.size w w' := by
 unfold impl_cloneTable.g at H
 have HS : St (fun _ => True) w w [] [(cF kI A0_0 x0.f0)] [] := St.start (foot_cons (foot_C (Kd.heap_int _) hr0_0) foot_nil)
 refine cw_ (n := 9) func106 fun R_ hR_ => ?_
 refine sr_ fun _ hK1 => ?_
 refine bo_ HS (fun b2 w3 hb2 HS => ?_)
 refine WL.alloc HS (v := .agg #[sn, vi 0]) (cs := #[sn, vi 0]) rfl rfl (by decide) rfl (by kernel_rfl) rfl (fun b4 w5 hb4 HS => ?_)
 refine dn_ hK1 (WC.seq fun _ hK6 => ?_)
 refine WC.drawW HS [boxM b4 #[sn, vi 0] 67, boxM b2 #[.slice A0_0 x0.f0.length c0_0, vi x0.f1] 67] (fun _ HS => ⟨(HS.mu 0 rfl), (HS.mu 1 rfl), trivial⟩) [6] rfl rfl (fun w7 HS => ?_)
 refine df_ 0 underlying67 ?_
 refine df_ 3 underlying67 ?_
 refine dt_ 1 ⟨HS.nowO, HS.nowN, ⟨(HS.mu 0 rfl), (HS.mu 1 rfl), trivial⟩⟩ (fun w_ hw_ => Run.load rfl rfl underlying22 rfl (box_cell hw_.2.2.2.1 rfl)) ?_
 refine dt_ 4 ⟨HS.nowO, HS.nowN, ⟨(HS.mu 0 rfl), (HS.mu 1 rfl), trivial⟩⟩ (fun w_ hw_ => Run.load rfl rfl underlying3 rfl (box_cell hw_.2.2.2.1 rfl)) ?_
 obtain ⟨t8, ha9, H⟩ := bind_some H
 refine dc_ 2 (w_none rfl) func78 (slices_Clone_int_int.runs k A0_0 c0_0 x0.f0 t8 _ (HS.getO 0 rfl) hc0_0 ha9) ?_
 clear ha9
 rintro _ w10 ⟨v11, bl12, rfl, hO_, hb⟩
 replace HS := HS.got hb hO_
 dsimp only [List.cons_append, List.nil_append] at HS
 clear hO_
 obtain ⟨I13, bl14, HS⟩ := HS.unseal (sz := 1) rfl
 replace HS := HS.freezeN 1 (p := (rF kI t8 I13)) rfl (fun _ hP_ _ => RepsB.reps hP_)
 dsimp only [List.eraseIdx] at HS
 refine ⟨⟨HS.nowO, HS.nowN.2, ⟨(HS.mu 1 rfl), (HS.mu 2 rfl), trivial⟩⟩, _, rfl, ?_⟩
 clear hb
 obtain ⟨A15, c16, rfl⟩ := row_slice (HS.mu 0 rfl)
 refine db_ 5 [(0, (.slice A15 t8.length c16)), (1, vi x0.f1)] (cells := #[(.slice A15 t8.length c16), vi x0.f1]) rfl rfl ⟨⟨rfl, rfl⟩, ⟨⟨rfl, rfl⟩, trivial⟩⟩ (by kernel_rfl) ?_
 refine WD.storeSL 6 HS 1 rfl rfl rfl rfl (oneL rfl) (by kernel_rfl) (ble_ rfl) (cs' := #[(.slice A15 t8.length c16), vi x0.f1]) (by kernel_rfl) (fun w17 HS => ?_)
 dsimp only [List.set] at HS
 refine dd_ (via_ hK6 (WC.ret ?_))
 replace HS := HS.elsF (xs := t8) (inner := I13) (Dk.int .i64) (fun _ _ _ h_ => ⟨h_, rfl⟩) (fun _ => (HS.getN 0 rfl))
 replace HS := HS.front 1 rfl
 dsimp only [List.eraseIdx] at HS
 replace HS := HS.seal rfl rfl
 obtain rfl := os H
 exact fin1 Try.f106 rfl ⟨_, rfl, resv_box (HS.mu 1 rfl) underlying67 rfl (by kernel_rfl)⟩ hR_ ⟨_, _, rfl, (St.owns (St.forget (St.forget HS 2 rfl) 1 rfl)), HS.b⟩
def impl_ForkTable.b0 (x1 : S67) (rec_ : Int → (List Int) → Option ((S58 × S67 × Bool) ⊕ (Int × (List Int)))) (k65 : Nat) (i41 : Int) (xs42 : List Int) : Option ((S58 × S67 × Bool) ⊕ (Int × (List Int))) := (if i41 < (x1.f0.length : Int) then (if 0 ≤ i41 ∧ i41 < (x1.f0.length : Int) then ((impl_SharePage.g k65 xs42 (x1.f0.getD i41.toNat 0)).bind fun t77 => (if t77.2 = true then (rec_ (wrap64 (i41 + 1)) t77.1) else (some (Sum.inl ((⟨[], []⟩ : S58), (⟨[], 0⟩ : S67), false))))) else none) else (some (Sum.inr (i41, xs42))))
def impl_ForkTable.l0 (x1 : S67) : Nat → Int → (List Int) → Option ((S58 × S67 × Bool) ⊕ (Int × (List Int)))
 | 0, _, _ => none
 | k + 1, i41, xs42 => impl_ForkTable.b0 x1 (impl_ForkTable.l0 x1 k) k i41 xs42
def impl_ForkTable.g (k : Nat) (x0 : S58) (x1 : S67) : Option (S58 × S67 × Bool) := ((impl_TableOk.g k (⟨x0.f0, x0.f1⟩ : S58) (⟨x1.f0, x1.f1⟩ : S67)).bind fun t12 => (if t12 = true then ((impl_cloneStore.g k (⟨x0.f0, x0.f1⟩ : S58)).bind fun t17 => ((impl_ForkTable.l0 x1 k 0 t17.f0).bind (fun oc63 => match oc63 with | .inl r_ => some r_ | .inr ⟨i41, xs42⟩ => ((impl_cloneTable.g k (⟨x1.f0, x1.f1⟩ : S67)).bind fun t52 => (some ((⟨xs42, t17.f1⟩ : S58), (⟨t52.f0, t52.f1⟩ : S67), true)))))) else (some ((⟨[], []⟩ : S58), (⟨[], 0⟩ : S67), false))))
theorem impl_ForkTable.runs (k : Nat) (x0 : S58) (A0_0 : Option Addr) (c0_0 : Nat) (A0_1 : Option Addr) (c0_1 : Nat) (x1 : S67) (A1_0 : Option Addr) (c1_0 : Nat) (r1 : S58) (r2 : S67) (r3 : Bool) (w : World) (hr0_0 : kI.C w A0_0 x0.f0.length x0.f0) (hc0_0 : x0.f0.length ≤ c0_0) (hr0_1 : kS62.C w A0_1 x0.f1.length x0.f1) (hc0_1 : x0.f1.length ≤ c0_1) (hr1_0 : kI.C w A1_0 x1.f0.length x1.f0) (hc1_0 : x1.f0.length ≤ c1_0) (H : impl_ForkTable.g k x0 x1 = some (r1, r2, r3)) :
   Calls prog 54 #[.agg #[.slice A0_0 x0.f0.length c0_0, .slice A0_1 x0.f1.length c0_1], .agg #[.slice A1_0 x1.f0.length c1_0, vi x1.f1]] w fun e w' => ∃ (v0_0_ : Value) (bl0_0_ : List Nat) (v0_1_ : Value) (bl0_1_ : List Nat) (v1_0_ : Value) (bl1_0_ : List Nat), e = .returned (.tuple #[.agg #[v0_0_, v0_1_], .agg #[v1_0_, vi r2.f1], .bool r3]) ∧ Owns w' w.heap.size [valM (Dk.slice 3 (Dk.int .i64)) r1.f0 [v0_0_] bl0_0_, valM (Dk.slice 71 (Dk.slice 62 dq62)) r1.f1 [v0_1_] bl0_1_, valM (Dk.slice 3 (Dk.int .i64)) r2.f0 [v1_0_] bl1_0_] ∧ Below w.heap.size w w' := by
 unfold impl_ForkTable.g at H
 have HS : St (fun _ => True) w w [] [(cF kI A0_0 x0.f0), (cF kS62 A0_1 x0.f1), (cF kI A1_0 x1.f0)] [] := St.start (foot_cons (foot_C (Kd.heap_int _) hr0_0) (foot_cons (foot_C (Kd.heap_slice _ h62) hr0_1) (foot_cons (foot_C (Kd.heap_int _) hr1_0) foot_nil)))
 refine cw_ (n := 44) func54 fun R_ hR_ => ?_
 refine sr_ fun _ hK1 => ?_
 refine bo_ HS (fun b2 w3 hb2 HS => ?_)
 refine bo_ HS (fun b4 w5 hb4 HS => ?_)
 refine WL.alloc HS (v := .agg #[sn, sn]) (cs := #[sn, sn]) rfl rfl (by decide) rfl (by kernel_rfl) rfl (fun b6 w7 hb6 HS => ?_)
 refine WL.alloc HS (v := .agg #[sn, vi 0]) (cs := #[sn, vi 0]) rfl rfl (by decide) rfl (by kernel_rfl) rfl (fun b8 w9 hb8 HS => ?_)
 refine ad_ hK1 ?_
 refine WC.seq fun _ hK10 => ?_
 refine sr_ fun _ hK11 => ?_
 refine v_ (ls_ (HS.mu 3 rfl) underlying58 part_all) ?_
 refine v_ (ls_ (HS.mu 2 rfl) underlying67 part_all) ?_
 obtain ⟨t12, ha13, H⟩ := bind_some H
 refine cs_ HS func57 (impl_TableOk.runs k (⟨x0.f0, x0.f1⟩ : S58) A0_0 c0_0 A0_1 c0_1 (⟨x1.f0, x1.f1⟩ : S67) A1_0 c1_0 t12 _ (HS.getO 0 rfl) hc0_0 (HS.getO 1 rfl) hc0_1 (HS.getO 2 rfl) hc1_0 ha13) (fun w14 HS => ?_)
 clear ha13
 refine nt_ ?_
 refine dn_ hK11 ?_
 rcases eti_ H with ⟨c15, H⟩ | ⟨c15, H⟩
 · refine wy_ (nB (bF c15)) (sr_ fun _ hK93 => ?_)
   refine v_ (Run.build (cells := #[sn, sn]) rfl [] trivial (by kernel_rfl)) ?_
   refine v_ (Run.build (cells := #[sn, vi 0]) rfl [] trivial (by kernel_rfl)) ?_
   refine WL.storeW HS 1 rfl rfl rfl rfl rfl rfl (oneL rfl) (by kernel_rfl) rfl (fun w94 HS => ?_)
   dsimp only [List.set] at HS
   refine WL.storeW HS 0 rfl rfl rfl rfl rfl rfl (oneL rfl) (by kernel_rfl) rfl (fun w95 HS => ?_)
   dsimp only [List.set] at HS
   refine ad_ hK93 ?_
   refine WC.ret ?_
   replace HS := HS.nilV (α := Int) 3 (Dk.int .i64)
   replace HS := HS.nilV (α := List S62) 71 (Dk.slice 62 dq62)
   replace HS := HS.nilV (α := Int) 3 (Dk.int .i64)
   obtain ⟨rfl, rfl, rfl⟩ := (by have h_ := os H; simp only [Prod.mk.injEq] at h_; exact h_)
   exact fin3 Try.f54 rfl ⟨_, rfl, resv_box (HS.mu 4 rfl) underlying58 rfl (by kernel_rfl)⟩ ⟨_, rfl, resv_box (HS.mu 3 rfl) underlying67 rfl (by kernel_rfl)⟩ rfl hR_ ⟨_, _, _, _, _, _, rfl, (St.owns (St.front (St.front (St.front (St.forget (St.forget (St.forget (St.forget HS 6 rfl) 5 rfl) 4 rfl) 3 rfl) 0 rfl) 1 rfl) 2 rfl)), HS.b⟩
 refine wn_ (nB c15) (WC.skip (via_ hK10 (sr_ fun _ hK16 => ?_)))
 refine v_ (ls_ (HS.mu 3 rfl) underlying58 part_all) ?_
 obtain ⟨t17, ha18, H⟩ := bind_some H
 refine c_ func105 (impl_cloneStore.runs k (⟨x0.f0, x0.f1⟩ : S58) A0_0 c0_0 A0_1 c0_1 t17 _ (HS.getO 0 rfl) hc0_0 (HS.getO 1 rfl) hc0_1 ha18) ?_
 clear ha18
 rintro _ w19 ⟨v20, bl21, v22, bl23, rfl, hO_, hb⟩
 replace HS := HS.got hb hO_
 dsimp only [List.cons_append, List.nil_append] at HS
 clear hO_
 obtain ⟨I24, bl25, HS⟩ := HS.unseal (sz := 1) rfl
 replace HS := HS.freezeN 1 (p := (rF kI t17.f0 I24)) rfl (fun _ hP_ _ => RepsB.reps hP_)
 dsimp only [List.eraseIdx] at HS
 replace HS := HS.front 1 rfl
 dsimp only [List.eraseIdx] at HS
 obtain ⟨I26, bl27, HS⟩ := HS.unseal (sz := 1) rfl
 refine ⟨_, rfl, ?_⟩
 clear hb
 refine WL.alloc HS (v := .agg #[sn, sn]) (cs := #[sn, sn]) rfl rfl (by decide) rfl (by kernel_rfl) rfl (fun b28 w29 hb28 HS => ?_)
 obtain ⟨A31, c32, rfl⟩ := row_slice (HS.mu 3 rfl)
 obtain ⟨A33, c34, rfl⟩ := row_slice (HS.mu 1 rfl)
 refine WL.storeW HS 0 rfl rfl rfl rfl rfl rfl (oneL rfl) (by kernel_rfl) rfl (fun w30 HS => ?_)
 dsimp only [List.set] at HS
 refine dn_ hK16 (WC.seq fun K35 hK35 => ?_)
 refine sr_ fun _ hK36 => ?_
 refine v_ (fa_ underlying67) ?_
 refine v_ (lb_ (HS.mu 6 rfl) underlying22 rfl) ?_
 refine ln_ underlying22 ?_
 refine mv_ ?_
 refine dn_ hK36 (WC.block ?_)
 obtain ⟨G37, hG38, oc39, H, Ho40⟩ := open_G H
 let J45 := fun (i41 : Int) (xs42 : List Int) v43 I44 (E_ : Env) (W_ : World) => E_ = [(3, .pointer (some ⟨b4, 0, none⟩)), (4, .pointer (some ⟨b6, 0, none⟩)), (5, .pointer (some ⟨b8, 0, none⟩)), (7, .pointer (some ⟨b28, 0, none⟩)), (21, .slice A1_0 x1.f0.length c1_0), (22, vi (x1.f0.length : Int)), (23, vi i41)] ∧ St (fun _ => True) w W_ [boxM b28 #[v43, (.slice A33 t17.f1.length c34)] 58, rowM w.heap.size 71 1 (.slice A33 t17.f1.length c34) t17.f1.length I26, elsM (Dk.slice 62 dq62) t17.f1 I26 bl27, rowM w.heap.size 3 1 v43 xs42.length I44, boxM b8 #[sn, vi 0] 67, boxM b6 #[sn, sn] 58, boxM b4 #[.slice A1_0 x1.f0.length c1_0, vi x1.f1] 67, boxM b2 #[.slice A0_0 x0.f0.length c0_0, .slice A0_1 x0.f1.length c0_1] 58] [(cF kI A0_0 x0.f0), (cF kS62 A0_1 x0.f1), (cF kI A1_0 x1.f0)] [(rF kI xs42 I44)]
 have X46 : ∀ E_ W_, (∃ i41 xs42 v43 I44, G37 (Sum.inr (i41, xs42)) = some (r1, r2, r3) ∧ J45 i41 xs42 v43 I44 E_ W_) → ∀ a, Fits a 44 E_ → K35 a W_ := by
   rintro E_ w47 ⟨i41, xs42, v43, I44, H, rfl, HS⟩
   rw [hG38] at H
   (try dsimp only at H)
   refine hK35 _ _ ?_
   refine WC.seq fun _ hK48 => ?_
   refine WC.drawW HS [boxM b28 #[v43, (.slice A33 t17.f1.length c34)] 58, boxM b4 #[.slice A1_0 x1.f0.length c1_0, vi x1.f1] 67, boxM b2 #[.slice A0_0 x0.f0.length c0_0, .slice A0_1 x0.f1.length c0_1] 58] (fun _ HS => ⟨(HS.mu 0 rfl), (HS.mu 6 rfl), (HS.mu 7 rfl), trivial⟩) [] rfl rfl (fun w49 HS => ?_)
   obtain ⟨A50, c51, rfl⟩ := row_slice (HS.mu 3 rfl)
   refine dt_ 0 ⟨HS.nowO, HS.nowN, ⟨(HS.mu 0 rfl), (HS.mu 6 rfl), (HS.mu 7 rfl), trivial⟩⟩ (fun w_ hw_ => Run.loadS (cs := [(.slice A50 xs42.length c51), (.slice A33 t17.f1.length c34)]) rfl rfl underlying58 rfl (by kernel_rfl) (box_part hw_.2.2.1 part_all)) ?_
   refine dt_ 1 ⟨HS.nowO, HS.nowN, ⟨(HS.mu 0 rfl), (HS.mu 6 rfl), (HS.mu 7 rfl), trivial⟩⟩ (fun w_ hw_ => Run.loadS (cs := [.slice A1_0 x1.f0.length c1_0, vi x1.f1]) rfl rfl underlying67 rfl (by kernel_rfl) (box_part hw_.2.2.2.1 part_all)) ?_
   obtain ⟨t52, ha53, H⟩ := bind_some H
   refine dc_ 2 (w_none rfl) func106 (impl_cloneTable.runs k (⟨x1.f0, x1.f1⟩ : S67) A1_0 c1_0 t52 _ (HS.getO 2 rfl) hc1_0 ha53) ?_
   clear ha53
   rintro _ w54 ⟨v55, bl56, rfl, hO_, hb⟩
   replace HS := HS.got hb hO_
   dsimp only [List.cons_append, List.nil_append] at HS
   clear hO_
   obtain ⟨I57, bl58, HS⟩ := HS.unseal (sz := 1) rfl
   replace HS := HS.freezeN 1 (p := (rF kI t52.f0 I57)) rfl (fun _ hP_ _ => RepsB.reps hP_)
   dsimp only [List.eraseIdx] at HS
   refine ⟨⟨HS.nowO, HS.nowN.2, ⟨(HS.mu 1 rfl), (HS.mu 7 rfl), (HS.mu 8 rfl), trivial⟩⟩, _, rfl, ?_⟩
   clear hb
   refine WD.storeS 3 HS 6 rfl rfl rfl rfl (oneL rfl) (by kernel_rfl) (ble_ rfl) (cs' := #[(.slice A50 xs42.length c51), (.slice A33 t17.f1.length c34)]) (by kernel_rfl) (fun w59 HS => ?_)
   dsimp only [List.set] at HS
   refine ⟨⟨HS.nowO, HS.nowN.2, ⟨(HS.mu 1 rfl), (HS.mu 7 rfl), (HS.mu 8 rfl), trivial⟩⟩, ?_⟩
   obtain ⟨A61, c62, rfl⟩ := row_slice (HS.mu 0 rfl)
   refine WD.storeS 4 HS 5 rfl rfl rfl rfl (oneL rfl) (by kernel_rfl) (ble_ rfl) (cs' := #[(.slice A61 t52.f0.length c62), vi t52.f1]) (by kernel_rfl) (fun w60 HS => ?_)
   dsimp only [List.set] at HS
   refine ⟨⟨HS.nowO, HS.nowN.2, ⟨(HS.mu 1 rfl), (HS.mu 7 rfl), (HS.mu 8 rfl), trivial⟩⟩, ?_⟩
   refine dp_ 5 (fun _ => Run.assign rfl rfl) ?_
   refine dd_ (via_ hK48 (WC.ret ?_))
   replace HS := HS.elsF (xs := xs42) (inner := I44) (Dk.int .i64) (fun _ _ _ h_ => ⟨h_, rfl⟩) (fun _ => (HS.getN 1 rfl))
   replace HS := HS.front 5 rfl
   dsimp only [List.eraseIdx] at HS
   replace HS := HS.seal rfl rfl
   replace HS := HS.front 4 rfl
   dsimp only [List.eraseIdx] at HS
   replace HS := HS.front 4 rfl
   dsimp only [List.eraseIdx] at HS
   replace HS := HS.seal rfl rfl
   replace HS := HS.elsF (xs := t52.f0) (inner := I57) (Dk.int .i64) (fun _ _ _ h_ => ⟨h_, rfl⟩) (fun _ => (HS.getN 0 rfl))
   replace HS := HS.front 3 rfl
   dsimp only [List.eraseIdx] at HS
   replace HS := HS.seal rfl rfl
   obtain ⟨rfl, rfl, rfl⟩ := (by have h_ := os H; simp only [Prod.mk.injEq] at h_; exact h_)
   exact fin3 Try.f54 rfl ⟨_, rfl, resv_box (HS.mu 5 rfl) underlying58 rfl (by kernel_rfl)⟩ ⟨_, rfl, resv_box (HS.mu 4 rfl) underlying67 rfl (by kernel_rfl)⟩ rfl hR_ ⟨_, _, _, _, _, _, rfl, (St.owns (St.front (St.front (St.front (St.forget (St.forget (St.forget (St.forget (St.forget HS 7 rfl) 6 rfl) 5 rfl) 4 rfl) 3 rfl) 0 rfl) 1 rfl) 2 rfl)), HS.b⟩
 clear hK35
 refine WC.loop (fun k_ E_ W_ => ∃ i41 xs42 v43 I44, (∃ o_, impl_ForkTable.l0 x1 k_ i41 xs42 = some o_ ∧ G37 o_ = some (r1, r2, r3)) ∧ J45 i41 xs42 v43 I44 E_ W_) k ⟨0, t17.f0, (.slice A31 t17.f0.length c32), I24, ⟨_, H, Ho40⟩, rfl, HS⟩ (sb rfl) ?_
 rintro k_ E_ w64 ⟨i41, xs42, v43, I44, ⟨oc39, H, Ho40⟩, rfl, HS⟩
 rcases k_ with _ | k65
 · exact no_ H
 replace H : impl_ForkTable.b0 x1 (impl_ForkTable.l0 x1 k65) k65 i41 xs42 = some oc39 := H
 unfold impl_ForkTable.b0 at H
 refine sr_ fun _ hK66 => ?_
 refine b_ bin_lss ?_
 refine dn_ hK66 (WC.seq fun _ hK67 => ?_)
 rcases eti_ H with ⟨c68, H⟩ | ⟨c68, H⟩
 · refine wn_ (dF c68) (WC.exit ?_)
   obtain rfl := os H
   exact wv_ iq X46 ⟨i41, xs42, v43, I44, Ho40, rfl, HS⟩
 refine wy_ (dT c68) (WC.skip (via_ hK67 (WC.seq fun _ hK69 => ?_)))
 refine WC.block (sr_ fun _ hK70 => ?_)
 obtain ⟨⟨q71, q72⟩, H⟩ := if_some H
 obtain ⟨ad73, rfl⟩ := C_open (HS.getO 2 rfl) (by omega)
 refine v_ (ia_ underlying22 1 q71 q72) ?_
 refine v_ (Run.load rfl rfl underlying3 rfl (int_cell (HS.getO 2 rfl) i41 q71 q72)) ?_
 refine ad_ hK70 ?_
 refine sr_ fun _ hK74 => ?_
 refine v_ (fa_ underlying58) ?_
 obtain ⟨A75, c76, rfl⟩ := row_slice (HS.mu 3 rfl)
 refine v_ (lb_ (HS.mu 0 rfl) underlying22 rfl) ?_
 refine mv_ ?_
 obtain ⟨t77, ha78, H⟩ := bind_some H
 refine c_ func123 (impl_SharePage.runs k65 A75 c76 xs42 (x1.f0.getD i41.toNat 0) t77.1 t77.2 _ (row_C rfl (HS.mu 3 rfl) (HS.getN 0 rfl)) (row_le (HS.mu 3 rfl)) ha78) ?_
 clear ha78
 rintro _ w79 ⟨v80, bl81, rfl, hO_, hb⟩
 replace HS := HS.got hb hO_
 dsimp only [List.cons_append, List.nil_append] at HS
 clear hO_
 obtain ⟨I82, bl83, HS⟩ := HS.unseal (sz := 1) rfl
 replace HS := HS.freezeN 1 (p := (rF kI t77.1 I82)) rfl (fun _ hP_ _ => RepsB.reps hP_)
 dsimp only [List.eraseIdx] at HS
 refine ⟨_, rfl, ?_⟩
 clear hb
 refine mv_ ?_
 refine v_ (Run.extract rfl rfl rfl) ?_
 refine v_ (Run.extract rfl rfl rfl) ?_
 refine as_ ?_
 refine ad_ hK74 ?_
 refine WC.seq fun _ hK84 => ?_
 refine sr_ fun _ hK85 => ?_
 refine mv_ ?_
 refine nt_ ?_
 refine dn_ hK85 ?_
 rcases ite_ H with ⟨c86, H⟩ | ⟨c86, H⟩
 · refine wn_ (nB c86) (WC.skip (via_ hK84 (rg_ (mv_ ?_))))
   refine v_ (fa_ underlying58) ?_
   obtain ⟨A88, c89, rfl⟩ := row_slice (HS.mu 0 rfl)
   refine WL.store HS 1 rfl rfl rfl rfl rfl rfl rfl (by kernel_rfl) (ble_ rfl) (cs' := #[(.slice A88 t77.1.length c89), (.slice A33 t17.f1.length c34)]) (by kernel_rfl) (fun w87 HS => ?_)
   dsimp only [List.set] at HS
   refine dn_ hK69 (rg_ (b_ bin_add64 ?_))
   refine mv_ ?_
   refine WL.done ?_
   exact wr_ k65 iq ⟨(wrap64 (i41 + 1)), t77.1, (.slice A88 t77.1.length c89), I82, ⟨_, H, Ho40⟩, rfl, (St.pk (St.front (St.front (St.front (St.front (St.front (St.front (St.front (St.front (St.forget HS 4 rfl) 7 rfl) 7 rfl) 7 rfl) 7 rfl) 4 rfl) 7 rfl) 7 rfl) 7 rfl) [0, 1, 2] [0] rfl rfl)⟩
 refine wy_ (nB (bF c86)) (sr_ fun _ hK90 => ?_)
 refine v_ (Run.build (cells := #[sn, sn]) rfl [] trivial (by kernel_rfl)) ?_
 refine v_ (Run.build (cells := #[sn, vi 0]) rfl [] trivial (by kernel_rfl)) ?_
 refine WL.storeW HS 6 rfl rfl rfl rfl rfl rfl (oneL rfl) (by kernel_rfl) rfl (fun w91 HS => ?_)
 dsimp only [List.set] at HS
 refine WL.storeW HS 5 rfl rfl rfl rfl rfl rfl (oneL rfl) (by kernel_rfl) rfl (fun w92 HS => ?_)
 dsimp only [List.set] at HS
 refine ad_ hK90 ?_
 refine WC.ret ?_
 replace HS := HS.nilV (α := Int) 3 (Dk.int .i64)
 replace HS := HS.nilV (α := List S62) 71 (Dk.slice 62 dq62)
 replace HS := HS.nilV (α := Int) 3 (Dk.int .i64)
 obtain rfl := os H
 rw [hG38] at Ho40
 replace H : some _ = some _ := Ho40
 obtain ⟨rfl, rfl, rfl⟩ := (by have h_ := os H; simp only [Prod.mk.injEq] at h_; exact h_)
 exact fin3 Try.f54 rfl ⟨_, rfl, resv_box (HS.mu 9 rfl) underlying58 rfl (by kernel_rfl)⟩ ⟨_, rfl, resv_box (HS.mu 8 rfl) underlying67 rfl (by kernel_rfl)⟩ rfl hR_ ⟨_, _, _, _, _, _, rfl, (St.owns (St.front (St.front (St.front (St.forget (St.forget (St.forget (St.forget (St.forget (St.forget (St.forget (St.forget (St.forget HS 11 rfl) 10 rfl) 9 rfl) 8 rfl) 7 rfl) 6 rfl) 5 rfl) 4 rfl) 3 rfl) 0 rfl) 1 rfl) 2 rfl)), HS.b⟩
end Go.Proofs.Ytlpginalgdbopaa.PFnExactForkTable
