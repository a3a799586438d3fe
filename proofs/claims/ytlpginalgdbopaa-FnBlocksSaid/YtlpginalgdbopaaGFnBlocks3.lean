/- Functions that the statement reaches, as Lean functions, and the proof that a call of each comes to just its answer; written by this claim's own program. No conditions. -/
import Derived.Test.YtlpginalgdbopaaGFnBlocks2
namespace Go.Proofs.Ytlpginalgdbopaa.PFnBlocks
open Try
open Go.RowKit Go.Proofs.YtlpginalgdbopaaW.PrintWords Go.Proofs.YtlpginalgdbopaaW.PrintLast Go.Proofs.YtlpginalgdbopaaW.PrintMore Go.Proofs.Ytlpginalgdbopaa.XW Go.Proofs.Ytlpginalgdbopaa.XOp Go.Proofs.Ytlpginalgdbopaa.XSt Go.Proofs.Ytlpginalgdbopaa.XDraw
set_option linter.unusedVariables false
set_option linter.unusedSimpArgs false
set_option maxHeartbeats 4000000
set_option maxRecDepth 20000
def impl_cloneStore.b0 (x0 : S58) (rec_ : Int → (List (List S62)) → Option (Int × (List (List S62)))) (k39 : Nat) (i25 : Int) (xs26 : List (List S62)) : Option (Int × (List (List S62))) := (if i25 < (x0.f1.length : Int) then (if 0 ≤ i25 ∧ i25 < (x0.f1.length : Int) then ((impl_cloneCells.g k39 (x0.f1.getD i25.toNat [])).bind fun t54 => (if (xs26.length) < 4294967296 then (rec_ (wrap64 (i25 + 1)) (xs26 ++ [t54])) else none)) else none) else (some (i25, xs26)))
def impl_cloneStore.l0 (x0 : S58) : Nat → Int → (List (List S62)) → Option (Int × (List (List S62)))
 | 0, _, _ => none
 | k + 1, i25, xs26 => impl_cloneStore.b0 x0 (impl_cloneStore.l0 x0 k) k i25 xs26
def impl_cloneStore.g (k : Nat) (x0 : S58) : Option S58 := ((slices_Clone_int_int.g k x0.f0).bind fun t7 => ((impl_cloneStore.l0 x0 k 0 ([] : List (List S62))).bind (fun oc37 => (some (⟨t7, oc37.2⟩ : S58)))))
theorem impl_cloneStore.runs (k : Nat) (x0 : S58) (A0_0 : Option Addr) (c0_0 : Nat) (A0_1 : Option Addr) (c0_1 : Nat) (r : S58) (w : World) (hr0_0 : kI.C w A0_0 x0.f0.length x0.f0) (hc0_0 : x0.f0.length ≤ c0_0) (hr0_1 : kS62.C w A0_1 x0.f1.length x0.f1) (hc0_1 : x0.f1.length ≤ c0_1) (H : impl_cloneStore.g k x0 = some r) :
   Calls prog 105 #[.agg #[.slice A0_0 x0.f0.length c0_0, .slice A0_1 x0.f1.length c0_1]] w fun e w' => ∃ (v0_0_ : Value) (bl0_0_ : List Nat) (v0_1_ : Value) (bl0_1_ : List Nat), e = .returned (.agg #[v0_0_, v0_1_]) ∧ Owns w' w.heap.size [valM (Dk.slice 3 (Dk.int .i64)) r.f0 [v0_0_] bl0_0_, valM (Dk.slice 71 (Dk.slice 62 dq62)) r.f1 [v0_1_] bl0_1_] ∧ Below w.heap.size w w' := by
 unfold impl_cloneStore.g at H
 have HS : St (fun _ => True) w w [] [(cF kI A0_0 x0.f0), (cF kS62 A0_1 x0.f1)] [] := St.start (foot_cons (foot_C (Kd.heap_int _) hr0_0) (foot_cons (foot_C (Kd.heap_slice _ h62) hr0_1) foot_nil))
 refine cw_ (n := 26) func105 fun R_ hR_ => ?_
 refine sr_ fun _ hK1 => ?_
 refine bo_ HS (fun b2 w3 hb2 HS => ?_)
 refine WL.alloc HS (v := .agg #[sn, sn]) (cs := #[sn, sn]) rfl rfl (by decide) rfl (by kernel_rfl) rfl (fun b4 w5 hb4 HS => ?_)
 refine dn_ hK1 (sr_ fun _ hK6 => ?_)
 refine v_ (fa_ underlying58) ?_
 refine v_ (lb_ (HS.mu 1 rfl) underlying22 rfl) ?_
 obtain ⟨t7, ha8, H⟩ := bind_some H
 refine c_ func78 (slices_Clone_int_int.runs k A0_0 c0_0 x0.f0 t7 _ (HS.getO 0 rfl) hc0_0 ha8) ?_
 clear ha8
 rintro _ w9 ⟨v10, bl11, rfl, hO_, hb⟩
 replace HS := HS.got hb hO_
 dsimp only [List.cons_append, List.nil_append] at HS
 clear hO_
 obtain ⟨I12, bl13, HS⟩ := HS.unseal (sz := 1) rfl
 replace HS := HS.freezeN 1 (p := (rF kI t7 I12)) rfl (fun _ hP_ _ => RepsB.reps hP_)
 dsimp only [List.eraseIdx] at HS
 refine ⟨_, rfl, ?_⟩
 clear hb
 obtain ⟨A14, c15, rfl⟩ := row_slice (HS.mu 0 rfl)
 refine v_ (Run.build (cells := #[(.slice A14 t7.length c15), sn]) rfl [(0, (.slice A14 t7.length c15))] ⟨⟨rfl, rfl⟩, trivial⟩ (by kernel_rfl)) ?_
 refine WL.alloc HS (v := .agg #[sn, sn]) (cs := #[sn, sn]) rfl rfl (by decide) rfl (by kernel_rfl) rfl (fun b16 w17 hb16 HS => ?_)
 refine WL.storeW HS 0 rfl rfl rfl rfl rfl rfl (oneL rfl) (by kernel_rfl) rfl (fun w18 HS => ?_)
 dsimp only [List.set] at HS
 refine dn_ hK6 (WC.seq fun K19 hK19 => ?_)
 refine sr_ fun _ hK20 => ?_
 refine v_ (fa_ underlying58) ?_
 refine v_ (lb_ (HS.mu 3 rfl) underlying56 rfl) ?_
 refine ln_ underlying56 ?_
 refine mv_ ?_
 refine dn_ hK20 (WC.block ?_)
 replace HS := HS.rowNil 71 1
 replace HS := HS.els0 (Dk.slice 62 dq62)
 obtain ⟨G21, hG22, oc23, H, Ho24⟩ := open_G H
 let J30 := fun (i25 : Int) (xs26 : List (List S62)) v27 I28 bl29 (E_ : Env) (W_ : World) => E_ = [(2, .pointer (some ⟨b4, 0, none⟩)), (3, .pointer (some ⟨b16, 0, none⟩)), (11, .slice A0_1 x0.f1.length c0_1), (12, vi (x0.f1.length : Int)), (13, vi i25)] ∧ St (fun _ => True) w W_ [elsM (Dk.slice 62 dq62) xs26 I28 bl29, rowM w.heap.size 71 1 v27 xs26.length I28, boxM b16 #[(.slice A14 t7.length c15), v27] 58, rowM w.heap.size 3 1 (.slice A14 t7.length c15) t7.length I12, boxM b4 #[sn, sn] 58, boxM b2 #[.slice A0_0 x0.f0.length c0_0, .slice A0_1 x0.f1.length c0_1] 58] [(cF kI A0_0 x0.f0), (cF kS62 A0_1 x0.f1)] [(rF kI t7 I12)]
 have X31 : ∀ E_ W_, (∃ i25 xs26 v27 I28 bl29, G21 (i25, xs26) = some r ∧ J30 i25 xs26 v27 I28 bl29 E_ W_) → ∀ a, Fits a 26 E_ → K19 a W_ := by
   rintro E_ w32 ⟨i25, xs26, v27, I28, bl29, H, rfl, HS⟩
   rw [hG22] at H
   (try dsimp only at H)
   refine hK19 _ _ ?_
   refine sr_ fun _ hK33 => ?_
   obtain ⟨A34, c35, rfl⟩ := row_slice (HS.mu 1 rfl)
   refine v_ (ls_ (HS.mu 2 rfl) underlying58 part_all) ?_
   refine WL.storeW HS 4 rfl rfl rfl rfl rfl rfl (oneL rfl) (by kernel_rfl) rfl (fun w36 HS => ?_)
   dsimp only [List.set] at HS
   refine dn_ hK33 (WC.ret ?_)
   replace HS := HS.elsF (xs := t7) (inner := I12) (Dk.int .i64) (fun _ _ _ h_ => ⟨h_, rfl⟩) (fun _ => (HS.getN 0 rfl))
   replace HS := HS.front 4 rfl
   dsimp only [List.eraseIdx] at HS
   replace HS := HS.seal rfl rfl
   replace HS := HS.front 1 rfl
   dsimp only [List.eraseIdx] at HS
   replace HS := HS.front 2 rfl
   dsimp only [List.eraseIdx] at HS
   replace HS := HS.seal rfl rfl
   obtain rfl := os H
   exact fin1 Try.f105 rfl ⟨_, rfl, resv_box (HS.mu 3 rfl) underlying58 rfl (by kernel_rfl)⟩ hR_ ⟨_, _, _, _, rfl, (St.owns (St.front (St.front (St.forget (St.forget (St.forget HS 4 rfl) 3 rfl) 2 rfl) 0 rfl) 1 rfl)), HS.b⟩
 clear hK19
 refine WC.loop (fun k_ E_ W_ => ∃ i25 xs26 v27 I28 bl29, (∃ o_, impl_cloneStore.l0 x0 k_ i25 xs26 = some o_ ∧ G21 o_ = some r) ∧ J30 i25 xs26 v27 I28 bl29 E_ W_) k ⟨0, ([] : List (List S62)), (sn), ([]), ([]), ⟨_, H, Ho24⟩, rfl, HS⟩ (sb rfl) ?_
 rintro k_ E_ w38 ⟨i25, xs26, v27, I28, bl29, ⟨oc23, H, Ho24⟩, rfl, HS⟩
 rcases k_ with _ | k39
 · exact no_ H
 replace H : impl_cloneStore.b0 x0 (impl_cloneStore.l0 x0 k39) k39 i25 xs26 = some oc23 := H
 unfold impl_cloneStore.b0 at H
 refine sr_ fun _ hK40 => ?_
 refine b_ bin_lss ?_
 refine dn_ hK40 (WC.seq fun _ hK41 => ?_)
 rcases eti_ H with ⟨c42, H⟩ | ⟨c42, H⟩
 · refine wn_ (dF c42) (WC.exit ?_)
   obtain rfl := os H
   exact wv_ iq X31 ⟨i25, xs26, v27, I28, bl29, Ho24, rfl, HS⟩
 refine wy_ (dT c42) (WC.skip (via_ hK41 (WC.seq fun _ hK43 => ?_)))
 refine WC.block (sr_ fun _ hK44 => ?_)
 obtain ⟨⟨q45, q46⟩, H⟩ := if_some H
 obtain ⟨ad47, rfl⟩ := C_open (HS.getO 1 rfl) (lenpos q45 q46)
 refine v_ (ia_ underlying56 1 q45 q46) ?_
 obtain ⟨A48, c49, le50, HS⟩ := HS.slO 1 rfl i25 q45 q46
 refine v_ (Run.load rfl rfl underlying71 rfl (HS.getO 1 rfl)) ?_
 refine ad_ hK44 ?_
 refine WC.drawW HS [boxM b16 #[(.slice A14 t7.length c15), v27] 58, boxM b4 #[sn, sn] 58, boxM b2 #[.slice A0_0 x0.f0.length c0_0, .slice (some ad47) x0.f1.length c0_1] 58] (fun _ HS => ⟨(HS.mu 2 rfl), (HS.mu 4 rfl), (HS.mu 5 rfl), trivial⟩) [7] rfl rfl (fun w51 HS => ?_)
 refine df_ 0 underlying58 ?_
 refine dm_ 2 ?_
 obtain ⟨A52, c53, rfl⟩ := row_slice (HS.mu 1 rfl)
 refine dt_ 1 ⟨HS.nowO, HS.nowN, ⟨(HS.mu 2 rfl), (HS.mu 4 rfl), (HS.mu 5 rfl), trivial⟩⟩ (fun w_ hw_ => Run.load rfl rfl underlying56 rfl (box_cell hw_.2.2.1 rfl)) ?_
 obtain ⟨t54, ha55, H⟩ := bind_some H
 refine dc_ 3 (w_none rfl) func107 (impl_cloneCells.runs k39 A48 c49 (x0.f1.getD i25.toNat []) t54 _ (HS.getO 0 rfl) le50 ha55) ?_
 clear ha55
 rintro _ w56 ⟨v57, bl58, rfl, hO_, hb⟩
 replace HS := HS.got hb hO_
 dsimp only [List.cons_append, List.nil_append] at HS
 clear hO_
 obtain ⟨I59, bl60, HS⟩ := HS.unseal (sz := 2) rfl
 refine ⟨⟨HS.nowO, HS.nowN, ⟨(HS.mu 4 rfl), (HS.mu 6 rfl), (HS.mu 7 rfl), trivial⟩⟩, _, rfl, ?_⟩
 clear hb
 obtain ⟨A61, c62, rfl⟩ := row_slice (HS.mu 0 rfl)
 have HS1 := HS.below (below_alloc (Below.refl _ _) (.cells #[(.slice A61 t54.length c62)] 71))
 refine dv_ 4 (w_none rfl) (Run.lit1 (z := (sn)) (vs := [(.slice A61 t54.length c62)]) rfl rfl rfl underlying56 (by kernel_rfl) (ble_ rfl) (ble_ rfl)) ⟨HS1.nowO, HS1.nowN, ⟨(HS1.mu 4 rfl), (HS1.mu 6 rfl), (HS1.mu 7 rfl), trivial⟩⟩ ?_
 obtain ⟨q63, H⟩ := if_some H
 refine WD.append 5 (w_none rfl) HS1 3 rfl rfl (sn) 24 underlying56 (by kernel_rfl) rfl (by decide) (by decide) rfl rfl [(.slice A61 t54.length c62)] rfl (lit_news _ _ _) (oneL rfl) (by omega) ((xs26 ++ [t54]).length) (by simp) (fun v64 w65 I66 hI67 HS => ?_)
 dsimp only [List.set] at HS
 clear HS1
 replace HS := HS.front 1 rfl
 dsimp only [List.eraseIdx] at HS
 replace HS := HS.front 1 rfl
 dsimp only [List.eraseIdx] at HS
 replace HS := HS.seal rfl rfl
 replace HS := HS.front 1 rfl
 dsimp only [List.eraseIdx] at HS
 replace HS := HS.front 1 rfl
 dsimp only [List.eraseIdx] at HS
 replace HS := HS.elsSnoc hI67
 refine ⟨⟨HS.nowO, HS.nowN, ⟨(HS.mu 2 rfl), (HS.mu 4 rfl), (HS.mu 5 rfl), trivial⟩⟩, ?_⟩
 refine df_ 6 underlying58 ?_
 obtain ⟨A69, c70, rfl⟩ := row_slice (HS.mu 1 rfl)
 refine WD.storeL 7 HS 2 rfl rfl rfl rfl rfl (by kernel_rfl) (ble_ rfl) (cs' := #[(.slice A14 t7.length c15), (.slice A69 ((xs26 ++ [t54]).length) c70)]) (by kernel_rfl) (fun w68 HS => ?_)
 dsimp only [List.set] at HS
 refine dd_ (via_ hK43 (rg_ (b_ bin_add64 ?_)))
 refine mv_ ?_
 refine WL.done ?_
 exact wr_ k39 iq ⟨(wrap64 (i25 + 1)), (xs26 ++ [t54]), (.slice A69 ((xs26 ++ [t54]).length) c70), I66, (bl29 ++ (((.slice A61 t54.length c62) : Value).ownBlock.toList ++ bl60)), ⟨_, H, Ho24⟩, rfl, (St.pk HS [2, 3] [0] rfl rfl)⟩
def impl_cloneTable.g (k : Nat) (x0 : S67) : Option S67 := ((slices_Clone_int_int.g k x0.f0).bind fun t8 => (some (⟨t8, x0.f1⟩ : S67)))
theorem impl_cloneTable.runs (k : Nat) (x0 : S67) (A0_0 : Option Addr) (c0_0 : Nat) (r : S67) (w : World) (hr0_0 : kI.C w A0_0 x0.f0.length x0.f0) (hc0_0 : x0.f0.length ≤ c0_0) (H : impl_cloneTable.g k x0 = some r) :
   Calls prog 106 #[.agg #[.slice A0_0 x0.f0.length c0_0, vi x0.f1]] w fun e w' => ∃ (v0_0_ : Value) (bl0_0_ : List Nat), e = .returned (.agg #[v0_0_, vi r.f1]) ∧ Owns w' w.heap.size [valM (Dk.slice 3 (Dk.int .i64)) r.f0 [v0_0_] bl0_0_] ∧ Below w.heap.size w w' := by
 unfold impl_cloneTable.g at H
 have HS : St (fun _ => True) w w [] [(cF kI A0_0 x0.f0)] [] := St.start (foot_cons (foot_C (Kd.heap_int _) hr0_0) foot_nil)
 refine cw_ (n := 9) func106 fun R_ hR_ => ?_
 refine sr_ fun _ hK1 => ?_
 refine bo_ HS (fun b2 w3 hb2 HS => ?_)
 refine WL.alloc HS (v := .agg #[sn, vi 0]) (cs := #[sn, vi 0]) rfl rfl (by decide) rfl (by kernel_rfl) rfl (fun b4 w5 hb4 HS => ?_)
 refine dn_ hK1 (WC.seq fun _ hK6 => ?_)
 refine WC.drawW HS [boxM b4 #[sn, vi 0] 67, boxM b2 #[.slice A0_0 x0.f0.length c0_0, vi x0.f1] 67] (fun _ HS => ⟨(HS.mu 0 rfl), (HS.mu 1 rfl), trivial⟩) [6] rfl rfl (fun w7 HS => ?_)
 refine df_ 0 underlying67 ?_
 refine df_ 3 underlying67 ?_
 refine dt_ 1 ⟨HS.nowO, HS.nowN, ⟨(HS.mu 0 rfl), (HS.mu 1 rfl), trivial⟩⟩ (fun w_ hw_ => Run.load rfl rfl underlying22 rfl (box_cell hw_.2.2.2.1 rfl)) ?_
 refine dt_ 4 ⟨HS.nowO, HS.nowN, ⟨(HS.mu 0 rfl), (HS.mu 1 rfl), trivial⟩⟩ (fun w_ hw_ => Run.load rfl rfl underlying3 rfl (box_cell hw_.2.2.2.1 rfl)) ?_
 obtain ⟨t8, ha9, H⟩ := bind_some H
 refine dc_ 2 (w_none rfl) func78 (slices_Clone_int_int.runs k A0_0 c0_0 x0.f0 t8 _ (HS.getO 0 rfl) hc0_0 ha9) ?_
 clear ha9
 rintro _ w10 ⟨v11, bl12, rfl, hO_, hb⟩
 replace HS := HS.got hb hO_
 dsimp only [List.cons_append, List.nil_append] at HS
 clear hO_
 obtain ⟨I13, bl14, HS⟩ := HS.unseal (sz := 1) rfl
 replace HS := HS.freezeN 1 (p := (rF kI t8 I13)) rfl (fun _ hP_ _ => RepsB.reps hP_)
 dsimp only [List.eraseIdx] at HS
 refine ⟨⟨HS.nowO, HS.nowN.2, ⟨(HS.mu 1 rfl), (HS.mu 2 rfl), trivial⟩⟩, _, rfl, ?_⟩
 clear hb
 obtain ⟨A15, c16, rfl⟩ := row_slice (HS.mu 0 rfl)
 refine db_ 5 [(0, (.slice A15 t8.length c16)), (1, vi x0.f1)] (cells := #[(.slice A15 t8.length c16), vi x0.f1]) rfl rfl ⟨⟨rfl, rfl⟩, ⟨⟨rfl, rfl⟩, trivial⟩⟩ (by kernel_rfl) ?_
 refine WD.storeSL 6 HS 1 rfl rfl rfl rfl (oneL rfl) (by kernel_rfl) (ble_ rfl) (cs' := #[(.slice A15 t8.length c16), vi x0.f1]) (by kernel_rfl) (fun w17 HS => ?_)
 dsimp only [List.set] at HS
 refine dd_ (via_ hK6 (WC.ret ?_))
 replace HS := HS.elsF (xs := t8) (inner := I13) (Dk.int .i64) (fun _ _ _ h_ => ⟨h_, rfl⟩) (fun _ => (HS.getN 0 rfl))
 replace HS := HS.front 1 rfl
 dsimp only [List.eraseIdx] at HS
 replace HS := HS.seal rfl rfl
 obtain rfl := os H
 exact fin1 Try.f106 rfl ⟨_, rfl, resv_box (HS.mu 1 rfl) underlying67 rfl (by kernel_rfl)⟩ hR_ ⟨_, _, rfl, (St.owns (St.forget (St.forget HS 2 rfl) 1 rfl)), HS.b⟩
def impl_TakePage.g (k : Nat) (l0 : List Int) : Option ((List Int) × Int × Bool) := ((slices_Index_int_int.g k l0 0).bind fun t3 => ((impl_PoolOk.g k l0).bind fun t8 => (if t8 = true then (if t3 < 0 then (some ([], 0, false)) else ((slices_Clone_int_int.g k l0).bind fun t15 => (if 0 ≤ t3 ∧ t3 < ((t15.length : Nat) : Int) then (some ((t15.set t3.toNat 1), t3, true)) else none))) else (some ([], 0, false)))))
theorem impl_TakePage.runs (k : Nat) (A0 : Option Addr) (c0 : Nat) (l0 : List Int) (r1 : List Int) (r2 : Int) (r3 : Bool) (w : World) (hr0 : kI.C w A0 l0.length l0) (hc0 : l0.length ≤ c0) (H : impl_TakePage.g k l0 = some (r1, r2, r3)) :
   Calls prog 144 #[.slice A0 l0.length c0] w fun e w' => ∃ (v0_ : Value) (bl0_ : List Nat), e = .returned (.tuple #[v0_, vi r2, .bool r3]) ∧ Owns w' w.heap.size [valM (Dk.slice 3 (Dk.int .i64)) r1 [v0_] bl0_] ∧ Below w.heap.size w w' := by
 unfold impl_TakePage.g at H
 have HS : St (fun _ => True) w w [] [(cF kI A0 l0)] [] := St.start (foot_cons (foot_C (Kd.heap_int _) hr0) foot_nil)
 refine cw_ (n := 23) func144 fun R_ hR_ => ?_
 refine sr_ fun _ hK1 => ?_
 refine fast_ ?_
 refine via_ hK1 (sr_ fun _ hK2 => ?_)
 refine mv_ ?_
 obtain ⟨t3, ha4, H⟩ := bind_some H
 refine cs_ HS func161 (slices_Index_int_int.runs k A0 c0 l0 0 t3 _ (HS.getO 0 rfl) hc0 ha4) (fun w5 HS => ?_)
 clear ha4
 refine ad_ hK2 ?_
 refine WC.seq fun _ hK6 => ?_
 refine sr_ fun _ hK7 => ?_
 refine mv_ ?_
 obtain ⟨t8, ha9, H⟩ := bind_some H
 refine cs_ HS func117 (impl_PoolOk.runs k A0 c0 l0 t8 _ (HS.getO 0 rfl) hc0 ha9) (fun w10 HS => ?_)
 clear ha9
 refine nt_ ?_
 refine mv_ ?_
 rcases eti_ H with ⟨c11, H⟩ | ⟨c11, H⟩
 · refine off_ (c' := true) (nB (bF c11)) ?_
   refine off_ (c' := true) (nB (bF c11)) ?_
   refine v_ (Run.pickT rfl rfl (nB (bF c11)) rfl) ?_
   refine dn_ hK7 (wy_ rfl ?_)
   refine sr_ fun _ hK36 => ?_
   refine fast_ ?_
   refine via_ hK36 (WC.ret ?_)
   replace HS := HS.nilV (α := Int) 3 (Dk.int .i64)
   obtain ⟨rfl, rfl, rfl⟩ := (by have h_ := os H; simp only [Prod.mk.injEq] at h_; exact h_)
   exact fin3 Try.f144 rfl rfl rfl rfl hR_ ⟨_, _, rfl, (St.owns HS), HS.b⟩
 refine on_ (nB c11) (mv_ ?_)
 refine on_ (nB c11) (b_ bin_lss ?_)
 refine v_ (Run.pickF rfl rfl (nB c11) rfl) ?_
 refine dn_ hK7 ?_
 rcases ite_ H with ⟨c12, H⟩ | ⟨c12, H⟩
 · refine wy_ (dT c12) (sr_ fun _ hK13 => ?_)
   refine fast_ ?_
   refine via_ hK13 (WC.ret ?_)
   replace HS := HS.nilV (α := Int) 3 (Dk.int .i64)
   obtain ⟨rfl, rfl, rfl⟩ := (by have h_ := os H; simp only [Prod.mk.injEq] at h_; exact h_)
   exact fin3 Try.f144 rfl rfl rfl rfl hR_ ⟨_, _, rfl, (St.owns HS), HS.b⟩
 refine wn_ (dF c12) (WC.skip (via_ hK6 (sr_ fun _ hK14 => ?_)))
 refine mv_ ?_
 obtain ⟨t15, ha16, H⟩ := bind_some H
 refine c_ func78 (slices_Clone_int_int.runs k A0 c0 l0 t15 _ (HS.getO 0 rfl) hc0 ha16) ?_
 clear ha16
 rintro _ w17 ⟨v18, bl19, rfl, hO_, hb⟩
 replace HS := HS.got hb hO_
 dsimp only [List.cons_append, List.nil_append] at HS
 clear hO_
 obtain ⟨I20, bl21, HS⟩ := HS.unseal (sz := 1) rfl
 replace HS := HS.freezeN 1 (p := (rF kI t15 I20)) rfl (fun _ hP_ _ => RepsB.reps hP_)
 dsimp only [List.eraseIdx] at HS
 refine ⟨_, rfl, ?_⟩
 clear hb
 refine ad_ hK14 ?_
 refine sr_ fun _ hK22 => ?_
 refine mv_ ?_
 refine mv_ ?_
 obtain ⟨⟨q23, q24⟩, H⟩ := if_some H
 obtain ⟨A25, c26, rfl⟩ := row_slice (HS.mu 0 rfl)
 obtain ⟨ad27, rfl⟩ := row_open (HS.mu 0 rfl) (lenpos q23 q24)
 refine v_ (ia_ underlying22 1 q23 q24) ?_
 have hk_ := mul_room q23 q24 1
 refine WL.putEl HS 0 rfl rfl rfl rfl rfl rfl [vi 1] rfl (oneL rfl) (by kernel_rfl) (by first | omega | (rw [List.length_nil]; omega) | (simp; omega)) (fun w28 I29 hI30 HS => ?_)
 dsimp only [List.set] at HS
 clear hk_
 replace HS := HS.deriveN (p := (rF kI (t15.set t3.toNat 1) I29)) (fun W_ hN_ => reps_set hI30 hN_.1 (K_int _) (toNat_lt q23 q24))
 replace HS := HS.rowN 0 rfl (show t15.length = (t15.set t3.toNat 1).length from (List.length_set ..).symm)
 dsimp only [List.set] at HS
 generalize hv32 : (Value.slice (some ad27) t15.length c26) = v31 at HS ⊢
 refine dn_ hK22 (sr_ fun _ hK33 => ?_)
 refine fast_ ?_
 refine via_ hK33 (WC.ret ?_)
 obtain ⟨A34, c35, rfl⟩ := row_slice (HS.mu 0 rfl)
 replace HS := HS.elsF (xs := (t15.set t3.toNat 1)) (inner := I29) (Dk.int .i64) (fun _ _ _ h_ => ⟨h_, rfl⟩) (fun _ => (HS.getN 0 rfl))
 replace HS := HS.front 1 rfl
 dsimp only [List.eraseIdx] at HS
 replace HS := HS.seal rfl rfl
 obtain ⟨rfl, rfl, rfl⟩ := (by have h_ := os H; simp only [Prod.mk.injEq] at h_; exact h_)
 exact fin3 Try.f144 rfl rfl rfl rfl hR_ ⟨_, _, rfl, (St.owns HS), HS.b⟩
def impl_AddCell.g (k : Nat) (x0 : S58) (x1 : S67) (x2 : S62) : Option (S58 × S67 × Bool) := ((impl_TableOk.g k (⟨x0.f0, x0.f1⟩ : S58) (⟨x1.f0, x1.f1⟩ : S67)).bind fun t14 => (if t14 = true then ((impl_cloneStore.g k (⟨x0.f0, x0.f1⟩ : S58)).bind fun t21 => ((impl_cloneTable.g k (⟨x1.f0, x1.f1⟩ : S67)).bind fun t32 => (((if (Int.tmod x1.f1 4) > 0 then (if 0 ≤ (wrap64 ((x1.f0.length : Int) - 1)) ∧ (wrap64 ((x1.f0.length : Int) - 1)) < (x1.f0.length : Int) then (if 0 ≤ (x1.f0.getD (wrap64 ((x1.f0.length : Int) - 1)).toNat 0) ∧ (x1.f0.getD (wrap64 ((x1.f0.length : Int) - 1)).toNat 0) < (x0.f1.length : Int) then (if 0 ≤ (Int.tmod x1.f1 4) ∧ (Int.tmod x1.f1 4) ≤ ((x0.f1.getD (x1.f0.getD (wrap64 ((x1.f0.length : Int) - 1)).toNat 0).toNat []).length : Int) then ((impl_cloneCells.g k ((x0.f1.getD (x1.f0.getD (wrap64 ((x1.f0.length : Int) - 1)).toNat 0).toNat []).take (Int.tmod x1.f1 4).toNat)).bind fun t478 => (if 0 ≤ (x1.f0.getD (wrap64 ((x1.f0.length : Int) - 1)).toNat 0) ∧ (x1.f0.getD (wrap64 ((x1.f0.length : Int) - 1)).toNat 0) < (x0.f0.length : Int) then (if (x0.f0.getD (x1.f0.getD (wrap64 ((x1.f0.length : Int) - 1)).toNat 0).toNat 0) = 1 then ((impl_cloneCell.g k (⟨x2.f0, x2.f1⟩ : S62)).bind fun t493 => (if (t478.length) < 4294967296 then (if 0 ≤ (x1.f0.getD (wrap64 ((x1.f0.length : Int) - 1)).toNat 0) ∧ (x1.f0.getD (wrap64 ((x1.f0.length : Int) - 1)).toNat 0) < ((t21.f1.length : Nat) : Int) then (some (Sum.inl ((⟨t21.f0, (t21.f1.set (x1.f0.getD (wrap64 ((x1.f0.length : Int) - 1)).toNat 0).toNat (t478 ++ [t493]))⟩ : S58), (⟨t32.f0, wrap64 (t32.f1 + 1)⟩ : S67), true))) else none) else none)) else (some (Sum.inr (t478, t21.f1)))) else none)) else none) else none) else none) else (some (Sum.inr (([] : List S62), t21.f1)))) : Option ((S58 × S67 × Bool) ⊕ ((List S62) × (List (List S62))))).bind (fun oc456 => match oc456 with | .inl r_ => some r_ | .inr ⟨xs298, xs302⟩ => ((impl_cloneCell.g k (⟨x2.f0, x2.f1⟩ : S62)).bind fun t309 => (if (xs298.length) < 4294967296 then ((impl_TakePage.g k t21.f0).bind fun t334 => (if t334.2.2 = true then (if 0 ≤ t334.2.1 ∧ t334.2.1 < ((xs302.length : Nat) : Int) then (((if (Int.tmod x1.f1 4) > 0 then (if 0 ≤ (wrap64 ((x1.f0.length : Int) - 1)) ∧ (wrap64 ((x1.f0.length : Int) - 1)) < (x1.f0.length : Int) then (if 0 ≤ (x1.f0.getD (wrap64 ((x1.f0.length : Int) - 1)).toNat 0) ∧ (x1.f0.getD (wrap64 ((x1.f0.length : Int) - 1)).toNat 0) < ((t334.1.length : Nat) : Int) then (if 0 ≤ (x1.f0.getD (wrap64 ((x1.f0.length : Int) - 1)).toNat 0) ∧ (x1.f0.getD (wrap64 ((x1.f0.length : Int) - 1)).toNat 0) < (((t334.1.set (x1.f0.getD (wrap64 ((x1.f0.length : Int) - 1)).toNat 0).toNat (wrap64 ((t334.1.getD (x1.f0.getD (wrap64 ((x1.f0.length : Int) - 1)).toNat 0).toNat 0) - 1))).length : Nat) : Int) then (if ((t334.1.set (x1.f0.getD (wrap64 ((x1.f0.length : Int) - 1)).toNat 0).toNat (wrap64 ((t334.1.getD (x1.f0.getD (wrap64 ((x1.f0.length : Int) - 1)).toNat 0).toNat 0) - 1))).getD (x1.f0.getD (wrap64 ((x1.f0.length : Int) - 1)).toNat 0).toNat 0) = 0 then (if 0 ≤ (x1.f0.getD (wrap64 ((x1.f0.length : Int) - 1)).toNat 0) ∧ (x1.f0.getD (wrap64 ((x1.f0.length : Int) - 1)).toNat 0) < (((xs302.set t334.2.1.toNat (xs298 ++ [t309])).length : Nat) : Int) then (if 0 ≤ (wrap64 ((x1.f0.length : Int) - 1)) ∧ (wrap64 ((x1.f0.length : Int) - 1)) < ((t32.f0.length : Nat) : Int) then (some ((t334.1.set (x1.f0.getD (wrap64 ((x1.f0.length : Int) - 1)).toNat 0).toNat (wrap64 ((t334.1.getD (x1.f0.getD (wrap64 ((x1.f0.length : Int) - 1)).toNat 0).toNat 0) - 1))), ((xs302.set t334.2.1.toNat (xs298 ++ [t309])).set (x1.f0.getD (wrap64 ((x1.f0.length : Int) - 1)).toNat 0).toNat ([])), (t32.f0.set (wrap64 ((x1.f0.length : Int) - 1)).toNat t334.2.1))) else none) else none) else (if 0 ≤ (wrap64 ((x1.f0.length : Int) - 1)) ∧ (wrap64 ((x1.f0.length : Int) - 1)) < ((t32.f0.length : Nat) : Int) then (some ((t334.1.set (x1.f0.getD (wrap64 ((x1.f0.length : Int) - 1)).toNat 0).toNat (wrap64 ((t334.1.getD (x1.f0.getD (wrap64 ((x1.f0.length : Int) - 1)).toNat 0).toNat 0) - 1))), (xs302.set t334.2.1.toNat (xs298 ++ [t309])), (t32.f0.set (wrap64 ((x1.f0.length : Int) - 1)).toNat t334.2.1))) else none)) else none) else none) else none) else (if (t32.f0.length) < 4294967296 then (some (t334.1, (xs302.set t334.2.1.toNat (xs298 ++ [t309])), (t32.f0 ++ [t334.2.1]))) else none)) : Option ((List Int) × (List (List S62)) × (List Int))).bind (fun oc390 => (some ((⟨oc390.1, oc390.2.1⟩ : S58), (⟨oc390.2.2, wrap64 (t32.f1 + 1)⟩ : S67), true)))) else none) else (some ((⟨[], []⟩ : S58), (⟨[], 0⟩ : S67), false)))) else none)))))) else (some ((⟨[], []⟩ : S58), (⟨[], 0⟩ : S67), false))))
theorem impl_AddCell.runs (k : Nat) (x0 : S58) (A0_0 : Option Addr) (c0_0 : Nat) (A0_1 : Option Addr) (c0_1 : Nat) (x1 : S67) (A1_0 : Option Addr) (c1_0 : Nat) (x2 : S62) (A2_0 : Option Addr) (c2_0 : Nat) (A2_1 : Option Addr) (c2_1 : Nat) (r1 : S58) (r2 : S67) (r3 : Bool) (w : World) (hr0_0 : kI.C w A0_0 x0.f0.length x0.f0) (hc0_0 : x0.f0.length ≤ c0_0) (hr0_1 : kS62.C w A0_1 x0.f1.length x0.f1) (hc0_1 : x0.f1.length ≤ c0_1) (hr1_0 : kI.C w A1_0 x1.f0.length x1.f0) (hc1_0 : x1.f0.length ≤ c1_0) (hr2_0 : kS149.C w A2_0 x2.f0.length x2.f0) (hc2_0 : x2.f0.length ≤ c2_0) (hr2_1 : kS149.C w A2_1 x2.f1.length x2.f1) (hc2_1 : x2.f1.length ≤ c2_1) (H : impl_AddCell.g k x0 x1 x2 = some (r1, r2, r3)) :
   Calls prog 45 #[.agg #[.slice A0_0 x0.f0.length c0_0, .slice A0_1 x0.f1.length c0_1], .agg #[.slice A1_0 x1.f0.length c1_0, vi x1.f1], .agg #[.slice A2_0 x2.f0.length c2_0, .slice A2_1 x2.f1.length c2_1]] w fun e w' => ∃ (v0_0_ : Value) (bl0_0_ : List Nat) (v0_1_ : Value) (bl0_1_ : List Nat) (v1_0_ : Value) (bl1_0_ : List Nat), e = .returned (.tuple #[.agg #[v0_0_, v0_1_], .agg #[v1_0_, vi r2.f1], .bool r3]) ∧ Owns w' w.heap.size [valM (Dk.slice 3 (Dk.int .i64)) r1.f0 [v0_0_] bl0_0_, valM (Dk.slice 71 (Dk.slice 62 dq62)) r1.f1 [v0_1_] bl0_1_, valM (Dk.slice 3 (Dk.int .i64)) r2.f0 [v1_0_] bl1_0_] ∧ Below w.heap.size w w' := by
 unfold impl_AddCell.g at H
 have HS : St (fun _ => True) w w [] [(cF kI A0_0 x0.f0), (cF kS62 A0_1 x0.f1), (cF kI A1_0 x1.f0), (cF kS149 A2_0 x2.f0), (cF kS149 A2_1 x2.f1)] [] := St.start (foot_cons (foot_C (Kd.heap_int _) hr0_0) (foot_cons (foot_C (Kd.heap_slice _ h62) hr0_1) (foot_cons (foot_C (Kd.heap_int _) hr1_0) (foot_cons (foot_C (Kd.heap_slice _ h149) hr2_0) (foot_cons (foot_C (Kd.heap_slice _ h149) hr2_1) foot_nil)))))
 refine cw_ (n := 109) func45 fun R_ hR_ => ?_
 refine sr_ fun _ hK1 => ?_
 refine bo_ HS (fun b2 w3 hb2 HS => ?_)
 refine bo_ HS (fun b4 w5 hb4 HS => ?_)
 refine bo_ HS (fun b6 w7 hb6 HS => ?_)
 refine WL.alloc HS (v := .agg #[sn, sn]) (cs := #[sn, sn]) rfl rfl (by decide) rfl (by kernel_rfl) rfl (fun b8 w9 hb8 HS => ?_)
 exact by (
 refine WL.alloc HS (v := .agg #[sn, vi 0]) (cs := #[sn, vi 0]) rfl rfl (by decide) rfl (by kernel_rfl) rfl (fun b10 w11 hb10 HS => ?_)
 refine ad_ hK1 ?_
 clear hK1
 refine WC.seq fun _ hK12 => ?_
 refine sr_ fun _ hK13 => ?_
 refine v_ (ls_ (HS.mu 4 rfl) underlying58 part_all) ?_
 refine v_ (ls_ (HS.mu 3 rfl) underlying67 part_all) ?_
 obtain ⟨t14, ha15, H⟩ := bind_some H
 exact by (
 refine cs_ HS func57 (impl_TableOk.runs k (⟨x0.f0, x0.f1⟩ : S58) A0_0 c0_0 A0_1 c0_1 (⟨x1.f0, x1.f1⟩ : S67) A1_0 c1_0 t14 _ (HS.getO 0 rfl) hc0_0 (HS.getO 1 rfl) hc0_1 (HS.getO 2 rfl) hc1_0 ha15) (fun w16 HS => ?_)
 clear ha15
 refine nt_ ?_
 refine dn_ hK13 ?_
 clear hK13
 rcases eti_ H with ⟨c17, H⟩ | ⟨c17, H⟩
 · refine wy_ (nB (bF c17)) (sr_ fun _ hK530 => ?_)
   refine v_ (Run.build (cells := #[sn, sn]) rfl [] trivial (by kernel_rfl)) ?_
   exact by (
   refine v_ (Run.build (cells := #[sn, vi 0]) rfl [] trivial (by kernel_rfl)) ?_
   refine WL.storeW HS 1 rfl rfl rfl rfl rfl rfl (oneL rfl) (by kernel_rfl) rfl (fun w531 HS => ?_)
   dsimp only [List.set] at HS
   refine WL.storeW HS 0 rfl rfl rfl rfl rfl rfl (oneL rfl) (by kernel_rfl) rfl (fun w532 HS => ?_)
   dsimp only [List.set] at HS
   refine ad_ hK530 ?_
   clear hK530
   refine WC.ret ?_
   exact by (
   replace HS := HS.nilV (α := Int) 3 (Dk.int .i64)
   replace HS := HS.nilV (α := List S62) 71 (Dk.slice 62 dq62)
   replace HS := HS.nilV (α := Int) 3 (Dk.int .i64)
   obtain ⟨rfl, rfl, rfl⟩ := (by have h_ := os H; simp only [Prod.mk.injEq] at h_; exact h_)
   exact fin3 Try.f45 rfl ⟨_, rfl, resv_box (HS.mu 4 rfl) underlying58 rfl (by kernel_rfl)⟩ ⟨_, rfl, resv_box (HS.mu 3 rfl) underlying67 rfl (by kernel_rfl)⟩ rfl hR_ ⟨_, _, _, _, _, _, rfl, (St.owns (St.front (St.front (St.front (St.forget (St.forget (St.forget (St.forget (St.forget HS 7 rfl) 6 rfl) 5 rfl) 4 rfl) 3 rfl) 0 rfl) 1 rfl) 2 rfl)), HS.b⟩ ))
 refine wn_ (nB c17) (WC.skip (via_ hK12 (WC.seq fun K18 hK18 => ?_)))
 clear hK12
 refine WC.drawW HS [boxM b10 #[sn, vi 0] 67, boxM b8 #[sn, sn] 58, boxM b6 #[.slice A2_0 x2.f0.length c2_0, .slice A2_1 x2.f1.length c2_1] 62, boxM b4 #[.slice A1_0 x1.f0.length c1_0, vi x1.f1] 67, boxM b2 #[.slice A0_0 x0.f0.length c0_0, .slice A0_1 x0.f1.length c0_1] 58] (fun _ HS => ⟨(HS.mu 0 rfl), (HS.mu 1 rfl), (HS.mu 2 rfl), (HS.mu 3 rfl), (HS.mu 4 rfl), trivial⟩) [7] rfl rfl (fun w19 HS => ?_)
 exact by (
 refine dt_ 0 ⟨HS.nowO, HS.nowN, ⟨(HS.mu 0 rfl), (HS.mu 1 rfl), (HS.mu 2 rfl), (HS.mu 3 rfl), (HS.mu 4 rfl), trivial⟩⟩ (fun w_ hw_ => Run.loadS (cs := [.slice A0_0 x0.f0.length c0_0, .slice A0_1 x0.f1.length c0_1]) rfl rfl underlying58 rfl (by kernel_rfl) (box_part hw_.2.2.2.2.2.2.1 part_all)) ?_
 refine dt_ 2 ⟨HS.nowO, HS.nowN, ⟨(HS.mu 0 rfl), (HS.mu 1 rfl), (HS.mu 2 rfl), (HS.mu 3 rfl), (HS.mu 4 rfl), trivial⟩⟩ (fun w_ hw_ => Run.loadS (cs := [.slice A1_0 x1.f0.length c1_0, vi x1.f1]) rfl rfl underlying67 rfl (by kernel_rfl) (box_part hw_.2.2.2.2.2.1 part_all)) ?_
 have X20 : ∀ E_ W_, (∃ (b39 : Nat) (b41 : Nat) (A44 : Option Addr) (t21 : S58) (c45 : Nat) (A46 : Option Addr) (c47 : Nat) (A49 : Option Addr) (t32 : S67) (c50 : Nat) (I37 : List Value) (I30 : List Value) (bl31 : List Nat) (I28 : List Value), E_ = [(0, .agg #[.slice A0_0 x0.f0.length c0_0, .slice A0_1 x0.f1.length c0_1]), (1, .agg #[.slice A1_0 x1.f0.length c1_0, vi x1.f1]), (2, .agg #[.slice A2_0 x2.f0.length c2_0, .slice A2_1 x2.f1.length c2_1]), (3, .pointer (some ⟨b2, 0, none⟩)), (4, .pointer (some ⟨b4, 0, none⟩)), (5, .pointer (some ⟨b6, 0, none⟩)), (6, .pointer (some ⟨b8, 0, none⟩)), (7, .pointer (some ⟨b10, 0, none⟩)), (8, .bool false), (9, .pointer (some ⟨b39, 0, none⟩)), (10, .pointer (some ⟨b41, 0, none⟩)), (17, .agg #[.slice A0_0 x0.f0.length c0_0, .slice A0_1 x0.f1.length c0_1]), (18, .agg #[.slice A1_0 x1.f0.length c1_0, vi x1.f1]), (19, .bool t14), (20, .bool (!t14)), (23, .agg #[.slice A0_0 x0.f0.length c0_0, .slice A0_1 x0.f1.length c0_1]), (24, .agg #[(.slice A44 t21.f0.length c45), (.slice A46 t21.f1.length c47)]), (25, .agg #[.slice A1_0 x1.f0.length c1_0, vi x1.f1]), (26, .agg #[(.slice A49 t32.f0.length c50), vi t32.f1])] ∧ (((if (Int.tmod x1.f1 4) > 0 then (if 0 ≤ (wrap64 ((x1.f0.length : Int) - 1)) ∧ (wrap64 ((x1.f0.length : Int) - 1)) < (x1.f0.length : Int) then (if 0 ≤ (x1.f0.getD (wrap64 ((x1.f0.length : Int) - 1)).toNat 0) ∧ (x1.f0.getD (wrap64 ((x1.f0.length : Int) - 1)).toNat 0) < (x0.f1.length : Int) then (if 0 ≤ (Int.tmod x1.f1 4) ∧ (Int.tmod x1.f1 4) ≤ ((x0.f1.getD (x1.f0.getD (wrap64 ((x1.f0.length : Int) - 1)).toNat 0).toNat []).length : Int) then ((impl_cloneCells.g k ((x0.f1.getD (x1.f0.getD (wrap64 ((x1.f0.length : Int) - 1)).toNat 0).toNat []).take (Int.tmod x1.f1 4).toNat)).bind fun t478 => (if 0 ≤ (x1.f0.getD (wrap64 ((x1.f0.length : Int) - 1)).toNat 0) ∧ (x1.f0.getD (wrap64 ((x1.f0.length : Int) - 1)).toNat 0) < (x0.f0.length : Int) then (if (x0.f0.getD (x1.f0.getD (wrap64 ((x1.f0.length : Int) - 1)).toNat 0).toNat 0) = 1 then ((impl_cloneCell.g k (⟨x2.f0, x2.f1⟩ : S62)).bind fun t493 => (if (t478.length) < 4294967296 then (if 0 ≤ (x1.f0.getD (wrap64 ((x1.f0.length : Int) - 1)).toNat 0) ∧ (x1.f0.getD (wrap64 ((x1.f0.length : Int) - 1)).toNat 0) < ((t21.f1.length : Nat) : Int) then (some (Sum.inl ((⟨t21.f0, (t21.f1.set (x1.f0.getD (wrap64 ((x1.f0.length : Int) - 1)).toNat 0).toNat (t478 ++ [t493]))⟩ : S58), (⟨t32.f0, wrap64 (t32.f1 + 1)⟩ : S67), true))) else none) else none)) else (some (Sum.inr (t478, t21.f1)))) else none)) else none) else none) else none) else (some (Sum.inr (([] : List S62), t21.f1)))) : Option ((S58 × S67 × Bool) ⊕ ((List S62) × (List (List S62))))).bind (fun oc456 => match oc456 with | .inl r_ => some r_ | .inr ⟨xs298, xs302⟩ => ((impl_cloneCell.g k (⟨x2.f0, x2.f1⟩ : S62)).bind fun t309 => (if (xs298.length) < 4294967296 then ((impl_TakePage.g k t21.f0).bind fun t334 => (if t334.2.2 = true then (if 0 ≤ t334.2.1 ∧ t334.2.1 < ((xs302.length : Nat) : Int) then (((if (Int.tmod x1.f1 4) > 0 then (if 0 ≤ (wrap64 ((x1.f0.length : Int) - 1)) ∧ (wrap64 ((x1.f0.length : Int) - 1)) < (x1.f0.length : Int) then (if 0 ≤ (x1.f0.getD (wrap64 ((x1.f0.length : Int) - 1)).toNat 0) ∧ (x1.f0.getD (wrap64 ((x1.f0.length : Int) - 1)).toNat 0) < ((t334.1.length : Nat) : Int) then (if 0 ≤ (x1.f0.getD (wrap64 ((x1.f0.length : Int) - 1)).toNat 0) ∧ (x1.f0.getD (wrap64 ((x1.f0.length : Int) - 1)).toNat 0) < (((t334.1.set (x1.f0.getD (wrap64 ((x1.f0.length : Int) - 1)).toNat 0).toNat (wrap64 ((t334.1.getD (x1.f0.getD (wrap64 ((x1.f0.length : Int) - 1)).toNat 0).toNat 0) - 1))).length : Nat) : Int) then (if ((t334.1.set (x1.f0.getD (wrap64 ((x1.f0.length : Int) - 1)).toNat 0).toNat (wrap64 ((t334.1.getD (x1.f0.getD (wrap64 ((x1.f0.length : Int) - 1)).toNat 0).toNat 0) - 1))).getD (x1.f0.getD (wrap64 ((x1.f0.length : Int) - 1)).toNat 0).toNat 0) = 0 then (if 0 ≤ (x1.f0.getD (wrap64 ((x1.f0.length : Int) - 1)).toNat 0) ∧ (x1.f0.getD (wrap64 ((x1.f0.length : Int) - 1)).toNat 0) < (((xs302.set t334.2.1.toNat (xs298 ++ [t309])).length : Nat) : Int) then (if 0 ≤ (wrap64 ((x1.f0.length : Int) - 1)) ∧ (wrap64 ((x1.f0.length : Int) - 1)) < ((t32.f0.length : Nat) : Int) then (some ((t334.1.set (x1.f0.getD (wrap64 ((x1.f0.length : Int) - 1)).toNat 0).toNat (wrap64 ((t334.1.getD (x1.f0.getD (wrap64 ((x1.f0.length : Int) - 1)).toNat 0).toNat 0) - 1))), ((xs302.set t334.2.1.toNat (xs298 ++ [t309])).set (x1.f0.getD (wrap64 ((x1.f0.length : Int) - 1)).toNat 0).toNat ([])), (t32.f0.set (wrap64 ((x1.f0.length : Int) - 1)).toNat t334.2.1))) else none) else none) else (if 0 ≤ (wrap64 ((x1.f0.length : Int) - 1)) ∧ (wrap64 ((x1.f0.length : Int) - 1)) < ((t32.f0.length : Nat) : Int) then (some ((t334.1.set (x1.f0.getD (wrap64 ((x1.f0.length : Int) - 1)).toNat 0).toNat (wrap64 ((t334.1.getD (x1.f0.getD (wrap64 ((x1.f0.length : Int) - 1)).toNat 0).toNat 0) - 1))), (xs302.set t334.2.1.toNat (xs298 ++ [t309])), (t32.f0.set (wrap64 ((x1.f0.length : Int) - 1)).toNat t334.2.1))) else none)) else none) else none) else none) else (if (t32.f0.length) < 4294967296 then (some (t334.1, (xs302.set t334.2.1.toNat (xs298 ++ [t309])), (t32.f0 ++ [t334.2.1]))) else none)) : Option ((List Int) × (List (List S62)) × (List Int))).bind (fun oc390 => (some ((⟨oc390.1, oc390.2.1⟩ : S58), (⟨oc390.2.2, wrap64 (t32.f1 + 1)⟩ : S67), true)))) else none) else (some ((⟨[], []⟩ : S58), (⟨[], 0⟩ : S67), false)))) else none)))) = some (r1, r2, r3) ∧ St (fun _ => True) w W_ [boxM b41 #[(.slice A49 t32.f0.length c50), vi t32.f1] 67, boxM b39 #[(.slice A44 t21.f0.length c45), (.slice A46 t21.f1.length c47)] 58, rowM w.heap.size 3 1 (.slice A49 t32.f0.length c50) t32.f0.length I37, rowM w.heap.size 71 1 (.slice A46 t21.f1.length c47) t21.f1.length I30, elsM (Dk.slice 62 dq62) t21.f1 I30 bl31, rowM w.heap.size 3 1 (.slice A44 t21.f0.length c45) t21.f0.length I28, boxM b10 #[sn, vi 0] 67, boxM b8 #[sn, sn] 58, boxM b6 #[.slice A2_0 x2.f0.length c2_0, .slice A2_1 x2.f1.length c2_1] 62, boxM b4 #[.slice A1_0 x1.f0.length c1_0, vi x1.f1] 67, boxM b2 #[.slice A0_0 x0.f0.length c0_0, .slice A0_1 x0.f1.length c0_1] 58] [(cF kI A0_0 x0.f0), (cF kS62 A0_1 x0.f1), (cF kI A1_0 x1.f0), (cF kS149 A2_0 x2.f0), (cF kS149 A2_1 x2.f1)] [(rF kI t32.f0 I37), (rF kI t21.f0 I28)]) → ∀ a, Fits a 109 E_ → K18 a W_ := by
   rintro E_ w285 ⟨b39, b41, A44, t21, c45, A46, c47, A49, t32, c50, I37, I30, bl31, I28, rfl, H, HS⟩
   refine hK18 _ _ ?_
   clear hK18
   refine sr_ fun _ hK286 => ?_
   refine v_ (fa_ underlying67) ?_
   exact by (
   refine v_ (lb_ (HS.mu 0 rfl) underlying3 rfl) ?_
   refine b_ bin_add64 ?_
   refine v_ (fa_ underlying67) ?_
   refine WL.store HS 0 rfl rfl rfl rfl rfl rfl rfl (by kernel_rfl) (ble_ rfl) (cs' := #[(.slice A49 t32.f0.length c50), vi (wrap64 (t32.f1 + 1))]) (by kernel_rfl) (fun w287 HS => ?_)
   dsimp only [List.set] at HS
   refine dn_ hK286 (sr_ fun _ hK288 => ?_)
   clear hK286
   refine WL.lit0 HS rfl rfl (by decide) rfl underlying71 (sz := 2) (by kernel_rfl) (fun v289 w290 HS => ?_)
   exact by (
   replace HS := HS.els0 (dq62)
   refine ad_ hK288 ?_
   clear hK288
   refine sr_ fun _ hK291 => ?_
   refine ad_ hK291 ?_
   clear hK291
   refine sr_ fun _ hK292 => ?_
   refine v_ (fa_ underlying67) ?_
   exact by (
   refine v_ (lb_ (HS.mu 11 rfl) underlying22 rfl) ?_
   refine ln_ underlying22 ?_
   refine b_ bin_sub64 ?_
   refine ad_ hK292 ?_
   clear hK292
   refine WC.seq fun K293 hK293 => ?_
   obtain ⟨G294, hG295, oc296, H, Ho297⟩ := open_G H
   have X306 : ∀ E_ W_, (∃ (xs298 : List S62) (v299 : Value) (I300 : List Value) (bl301 : List Nat) (xs302 : List (List S62)) (v303 : Value) (I304 : List Value) (bl305 : List Nat), E_ = [(4, .pointer (some ⟨b4, 0, none⟩)), (5, .pointer (some ⟨b6, 0, none⟩)), (6, .pointer (some ⟨b8, 0, none⟩)), (7, .pointer (some ⟨b10, 0, none⟩)), (9, .pointer (some ⟨b39, 0, none⟩)), (10, .pointer (some ⟨b41, 0, none⟩)), (11, v299), (13, vi (wrap64 ((x1.f0.length : Int) - 1)))] ∧ G294 (Sum.inr (xs298, xs302)) = some (r1, r2, r3) ∧ St (fun _ => True) w W_ [elsM dq62 xs298 I300 bl301, rowM w.heap.size 62 2 v299 xs298.length I300, boxM b41 #[(.slice A49 t32.f0.length c50), vi (wrap64 (t32.f1 + 1))] 67, boxM b39 #[(.slice A44 t21.f0.length c45), v303] 58, rowM w.heap.size 3 1 (.slice A49 t32.f0.length c50) t32.f0.length I37, rowM w.heap.size 71 1 v303 xs302.length I304, elsM (Dk.slice 62 dq62) xs302 I304 bl305, rowM w.heap.size 3 1 (.slice A44 t21.f0.length c45) t21.f0.length I28, boxM b10 #[sn, vi 0] 67, boxM b8 #[sn, sn] 58, boxM b6 #[.slice A2_0 x2.f0.length c2_0, .slice A2_1 x2.f1.length c2_1] 62, boxM b4 #[.slice A1_0 x1.f0.length c1_0, vi x1.f1] 67, boxM b2 #[.slice A0_0 x0.f0.length c0_0, .slice A0_1 x0.f1.length c0_1] 58] [(cF kI A0_0 x0.f0), (cF kS62 A0_1 x0.f1), (cF kI A1_0 x1.f0), (cF kS149 A2_0 x2.f0), (cF kS149 A2_1 x2.f1)] [(rF kI t32.f0 I37), (rF kI t21.f0 I28)]) → ∀ a, Fits a 109 E_ → K293 a W_ := by
     exact by (
     rintro E_ w307 ⟨xs298, v299, I300, bl301, xs302, v303, I304, bl305, rfl, H, HS⟩
     rw [hG295] at H
     (try dsimp only at H)
     refine hK293 _ _ ?_
     clear hK293
     refine sr_ fun _ hK308 => ?_
     refine mv_ ?_
     refine v_ (ls_ (HS.mu 10 rfl) underlying62 part_all) ?_
     exact by (
     obtain ⟨t309, ha310, H⟩ := bind_some H
     refine c_ func108 (impl_cloneCell.runs k (⟨x2.f0, x2.f1⟩ : S62) A2_0 c2_0 A2_1 c2_1 t309 _ (HS.getO 3 rfl) hc2_0 (HS.getO 4 rfl) hc2_1 ha310) ?_
     clear ha310
     rintro _ w311 ⟨v312, bl313, v314, bl315, rfl, hO_, hb⟩
     replace HS := HS.got hb hO_
     dsimp only [List.cons_append, List.nil_append] at HS
     clear hO_
     obtain ⟨I316, bl317, HS⟩ := HS.unseal (sz := 1) rfl
     exact by (
     replace HS := HS.front 2 rfl
     dsimp only [List.eraseIdx] at HS
     obtain ⟨I318, bl319, HS⟩ := HS.unseal (sz := 1) rfl
     refine ⟨_, rfl, ?_⟩
     clear hb
     obtain ⟨A320, c321, rfl⟩ := row_slice (HS.mu 2 rfl)
     obtain ⟨A322, c323, rfl⟩ := row_slice (HS.mu 0 rfl)
     refine WL.val rfl rfl (by decide) (Run.lit1 (z := (.agg #[sn, sn])) (vs := [(.slice A320 t309.f0.length c321), (.slice A322 t309.f1.length c323)]) rfl rfl rfl underlying71 (by kernel_rfl) (ble_ rfl) (ble_ rfl)) ?_
     exact by (
     have HS1 := HS.below (below_alloc (Below.refl _ _) (.cells #[(.slice A320 t309.f0.length c321), (.slice A322 t309.f1.length c323)] 62))
     obtain ⟨q324, H⟩ := if_some H
     refine WL.append HS1 5 rfl rfl rfl (by decide) rfl (.agg #[sn, sn]) 48 underlying71 (by kernel_rfl) rfl (by decide) (by decide) rfl rfl [(.slice A320 t309.f0.length c321), (.slice A322 t309.f1.length c323)] rfl (lit_news _ _ _) (oneL rfl) (by omega) ((xs298 ++ [t309]).length) (by simp) (fun v325 w326 I327 hI328 HS => ?_)
     dsimp only [List.set] at HS
     clear HS1
     replace HS := HS.front 3 rfl
     dsimp only [List.eraseIdx] at HS
     replace HS := HS.front 3 rfl
     exact by (
     dsimp only [List.eraseIdx] at HS
     replace HS := HS.seal rfl rfl
     replace HS := HS.front 2 rfl
     dsimp only [List.eraseIdx] at HS
     replace HS := HS.front 2 rfl
     dsimp only [List.eraseIdx] at HS
     replace HS := HS.seal rfl rfl
     replace HS := HS.front 1 rfl
     exact by (
     dsimp only [List.eraseIdx] at HS
     replace HS := HS.both
     replace HS := HS.put0 (valM dq62 t309 ([(.slice A320 t309.f0.length c321), (.slice A322 t309.f1.length c323)]) ((((.slice A320 t309.f0.length c321) : Value).ownBlock.toList ++ bl317) ++ (((.slice A322 t309.f1.length c323) : Value).ownBlock.toList ++ bl319))) (fun hP_ => foot_val (dq62_mk _ t309 hP_.1 hP_.2)) (fun h_ => h_) (fun _ h_ => h_)
     replace HS := HS.front 1 rfl
     dsimp only [List.eraseIdx] at HS
     replace HS := HS.front 1 rfl
     dsimp only [List.eraseIdx] at HS
     replace HS := HS.elsSnoc hI328
     exact by (
     obtain ⟨A330, c331, rfl⟩ := row_slice (HS.mu 1 rfl)
     refine ci_ (args := [.pointer (some ⟨b39, 0, none⟩), (.slice A330 ((xs298 ++ [t309]).length) c331)]) func109 ?_
     refine cw_ (n := 32) func109 fun _ hR329 => ?_
     refine sr_ fun _ hK332 => ?_
     refine as_ ?_
     refine ad_ hK332 ?_
     clear hK332
     refine sr_ fun _ hK333 => ?_
     exact by (
     refine mv_ ?_
     refine v_ (Run.nilCheck rfl rfl) ?_
     refine v_ (fa_ underlying58) ?_
     refine v_ (lb_ (HS.mu 3 rfl) underlying22 rfl) ?_
     obtain ⟨t334, ha335, H⟩ := bind_some H
     refine c_ func144 (impl_TakePage.runs k A44 c45 t21.f0 t334.1 t334.2.1 t334.2.2 _ (row_C rfl (HS.mu 7 rfl) (HS.getN 1 rfl)) (row_le (HS.mu 7 rfl)) ha335) ?_
     clear ha335
     rintro _ w336 ⟨v337, bl338, rfl, hO_, hb⟩
     exact by (
     replace HS := HS.got hb hO_
     dsimp only [List.cons_append, List.nil_append] at HS
     clear hO_
     obtain ⟨I339, bl340, HS⟩ := HS.unseal (sz := 1) rfl
     replace HS := HS.freezeN 1 (p := (rF kI t334.1 I339)) rfl (fun _ hP_ _ => RepsB.reps hP_)
     dsimp only [List.eraseIdx] at HS
     refine ⟨_, rfl, ?_⟩
     clear hb
     exact by (
     refine mv_ ?_
     refine v_ (Run.extract rfl rfl rfl) ?_
     refine v_ (Run.extract rfl rfl rfl) ?_
     refine v_ (Run.extract rfl rfl rfl) ?_
     refine fast_ ?_
     refine via_ hK333 (WC.seq fun _ hK341 => ?_)
     clear hK333
     refine sr_ fun _ hK342 => ?_
     exact by (
     refine mv_ ?_
     refine nt_ ?_
     refine dn_ hK342 ?_
     clear hK342
     rcases eti_ H with ⟨c343, H⟩ | ⟨c343, H⟩
     · refine wy_ (nB (bF c343)) (sr_ fun _ hK450 => ?_)
       refine as_ ?_
       refine ad_ hK450 ?_
       exact by (
       clear hK450
       refine WC.ret ?_
       refine fin2 Try.f109 rfl rfl rfl hR329 ⟨_, rfl, ?_⟩
       refine mv_ ?_
       refine v_ (Run.extract rfl rfl rfl) ?_
       refine v_ (Run.extract rfl rfl rfl) ?_
       refine as_ ?_
       refine ad_ hK308 ?_
       exact by (
       clear hK308
       refine WC.seq fun _ hK451 => ?_
       refine sr_ fun _ hK452 => ?_
       refine mv_ ?_
       refine nt_ ?_
       refine dn_ hK452 (wy_ rfl ?_)
       clear hK452
       refine sr_ fun _ hK453 => ?_
       exact by (
       refine v_ (Run.build (cells := #[sn, sn]) rfl [] trivial (by kernel_rfl)) ?_
       refine v_ (Run.build (cells := #[sn, vi 0]) rfl [] trivial (by kernel_rfl)) ?_
       refine WL.storeW HS 10 rfl rfl rfl rfl rfl rfl (oneL rfl) (by kernel_rfl) rfl (fun w454 HS => ?_)
       dsimp only [List.set] at HS
       refine WL.storeW HS 9 rfl rfl rfl rfl rfl rfl (oneL rfl) (by kernel_rfl) rfl (fun w455 HS => ?_)
       dsimp only [List.set] at HS
       refine ad_ hK453 ?_
       clear hK453
       exact by (
       refine WC.ret ?_
       replace HS := HS.nilV (α := Int) 3 (Dk.int .i64)
       replace HS := HS.nilV (α := List S62) 71 (Dk.slice 62 dq62)
       replace HS := HS.nilV (α := Int) 3 (Dk.int .i64)
       obtain ⟨rfl, rfl, rfl⟩ := (by have h_ := os H; simp only [Prod.mk.injEq] at h_; exact h_)
       exact fin3 Try.f45 rfl ⟨_, rfl, resv_box (HS.mu 13 rfl) underlying58 rfl (by kernel_rfl)⟩ ⟨_, rfl, resv_box (HS.mu 12 rfl) underlying67 rfl (by kernel_rfl)⟩ rfl hR_ ⟨_, _, _, _, _, _, rfl, (St.owns (St.front (St.front (St.front (St.forget (St.forget (St.forget (St.forget (St.forget (St.forget (St.forget (St.forget (St.forget (St.forget (St.forget (St.forget (St.forget (St.forget HS 16 rfl) 15 rfl) 14 rfl) 13 rfl) 12 rfl) 11 rfl) 10 rfl) 9 rfl) 8 rfl) 7 rfl) 6 rfl) 5 rfl) 4 rfl) 3 rfl) 0 rfl) 1 rfl) 2 rfl)), HS.b⟩ ))))
     refine wn_ (nB c343) (WC.skip (via_ hK341 (sr_ fun _ hK344 => ?_)))
     clear hK341
     exact by (
     refine mv_ ?_
     refine mv_ ?_
     refine v_ (Run.nilCheck rfl rfl) ?_
     refine v_ (fa_ underlying58) ?_
     obtain ⟨A346, c347, rfl⟩ := row_slice (HS.mu 0 rfl)
     refine WL.store HS 4 rfl rfl rfl rfl rfl rfl rfl (by kernel_rfl) (ble_ rfl) (cs' := #[(.slice A346 t334.1.length c347), v303]) (by kernel_rfl) (fun w345 HS => ?_)
     dsimp only [List.set] at HS
     refine dn_ hK344 (sr_ fun _ hK348 => ?_)
     exact by (
     clear hK344
     refine mv_ ?_
     refine v_ (Run.nilCheck rfl rfl) ?_
     refine v_ (fa_ underlying58) ?_
     obtain ⟨A349, c350, rfl⟩ := row_slice (HS.mu 6 rfl)
     refine v_ (lb_ (HS.mu 4 rfl) underlying56 rfl) ?_
     refine mv_ ?_
     refine mv_ ?_
     exact by (
     obtain ⟨⟨q351, q352⟩, H⟩ := if_some H
     obtain ⟨ad353, rfl⟩ := row_open (HS.mu 6 rfl) (lenpos q351 q352)
     refine v_ (ia_ underlying56 1 q351 q352) ?_
     have hk_ := mul_room q351 q352 1
     refine WL.putEl HS 6 rfl rfl rfl rfl rfl rfl [(.slice A330 ((xs298 ++ [t309]).length) c331)] rfl (oneL rfl) (by kernel_rfl) (by first | omega | (rw [List.length_nil]; omega) | (simp; omega)) (fun w354 I355 hI356 HS => ?_)
     dsimp only [List.set] at HS
     clear hk_
     replace HS := HS.rowN 6 rfl (show xs302.length = (xs302.set t334.2.1.toNat (xs298 ++ [t309])).length from (List.length_set ..).symm)
     exact by (
     dsimp only [List.set] at HS
     replace HS := HS.front 1 rfl
     dsimp only [List.eraseIdx] at HS
     replace HS := HS.front 2 rfl
     dsimp only [List.eraseIdx] at HS
     replace HS := HS.seal rfl rfl
     replace HS := HS.front 6 rfl
     dsimp only [List.eraseIdx] at HS
     exact by (
     replace HS := HS.front 1 rfl
     dsimp only [List.eraseIdx] at HS
     obtain ⟨bl357, HS⟩ := HS.elsSet t334.2.1.toNat rfl hI356 (toNat_lt q351 q352)
     generalize hv359 : (Value.slice (some ad353) xs302.length c350) = v358 at HS ⊢
     refine dn_ hK348 (sr_ fun _ hK360 => ?_)
     clear hK348
     refine fast_ ?_
     refine via_ hK360 (WC.ret ?_)
     exact by (
     clear hK360
     refine fin2 Try.f109 rfl rfl rfl hR329 ⟨_, rfl, ?_⟩
     refine mv_ ?_
     refine v_ (Run.extract rfl rfl rfl) ?_
     refine v_ (Run.extract rfl rfl rfl) ?_
     refine as_ ?_
     refine ad_ hK308 ?_
     clear hK308
     exact by (
     refine WC.seq fun _ hK361 => ?_
     refine sr_ fun _ hK362 => ?_
     refine mv_ ?_
     refine nt_ ?_
     refine dn_ hK362 (wn_ rfl ?_)
     clear hK362
     refine WC.skip (via_ hK361 (WC.seq fun K363 hK363 => ?_))
     clear hK361
     exact by (
     obtain ⟨G364, hG365, oc366, H, Ho367⟩ := open_G H
     have X378 : ∀ E_ W_, (∃ (xs368 : List Int) (v369 : Value) (I370 : List Value) (xs371 : List (List S62)) (v372 : Value) (I373 : List Value) (bl374 : List Nat) (xs375 : List Int) (v376 : Value) (I377 : List Value), E_ = [(6, .pointer (some ⟨b8, 0, none⟩)), (7, .pointer (some ⟨b10, 0, none⟩)), (9, .pointer (some ⟨b39, 0, none⟩)), (10, .pointer (some ⟨b41, 0, none⟩))] ∧ G364 (xs368, xs371, xs375) = some (r1, r2, r3) ∧ St (fun _ => True) w W_ [elsM (Dk.slice 62 dq62) xs371 I373 bl374, rowM w.heap.size 3 1 v369 xs368.length I370, boxM b41 #[v376, vi (wrap64 (t32.f1 + 1))] 67, boxM b39 #[v369, v372] 58, rowM w.heap.size 3 1 v376 xs375.length I377, rowM w.heap.size 71 1 v372 xs371.length I373, boxM b10 #[sn, vi 0] 67, boxM b8 #[sn, sn] 58, boxM b6 #[.slice A2_0 x2.f0.length c2_0, .slice A2_1 x2.f1.length c2_1] 62, boxM b4 #[.slice A1_0 x1.f0.length c1_0, vi x1.f1] 67, boxM b2 #[.slice A0_0 x0.f0.length c0_0, .slice A0_1 x0.f1.length c0_1] 58] [(cF kI A0_0 x0.f0), (cF kS62 A0_1 x0.f1), (cF kI A1_0 x1.f0), (cF kS149 A2_0 x2.f0), (cF kS149 A2_1 x2.f1)] [(rF kI xs368 I370), (rF kI xs375 I377)]) → ∀ a, Fits a 109 E_ → K363 a W_ := by
       rintro E_ w379 ⟨xs368, v369, I370, xs371, v372, I373, bl374, xs375, v376, I377, rfl, H, HS⟩
       rw [hG365] at H
       (try dsimp only at H)
       refine hK363 _ _ ?_
       clear hK363
       refine WC.seq fun _ hK380 => ?_
       exact by (
       refine WC.drawW HS [boxM b41 #[v376, vi (wrap64 (t32.f1 + 1))] 67, boxM b39 #[v369, v372] 58, boxM b6 #[.slice A2_0 x2.f0.length c2_0, .slice A2_1 x2.f1.length c2_1] 62, boxM b4 #[.slice A1_0 x1.f0.length c1_0, vi x1.f1] 67, boxM b2 #[.slice A0_0 x0.f0.length c0_0, .slice A0_1 x0.f1.length c0_1] 58] (fun _ HS => ⟨(HS.mu 2 rfl), (HS.mu 3 rfl), (HS.mu 8 rfl), (HS.mu 9 rfl), (HS.mu 10 rfl), trivial⟩) [] rfl rfl (fun w381 HS => ?_)
       obtain ⟨A382, c383, rfl⟩ := row_slice (HS.mu 1 rfl)
       obtain ⟨A384, c385, rfl⟩ := row_slice (HS.mu 5 rfl)
       refine dt_ 0 ⟨HS.nowO, HS.nowN, ⟨(HS.mu 2 rfl), (HS.mu 3 rfl), (HS.mu 8 rfl), (HS.mu 9 rfl), (HS.mu 10 rfl), trivial⟩⟩ (fun w_ hw_ => Run.loadS (cs := [(.slice A382 xs368.length c383), (.slice A384 xs371.length c385)]) rfl rfl underlying58 rfl (by kernel_rfl) (box_part hw_.2.2.2.1 part_all)) ?_
       obtain ⟨A386, c387, rfl⟩ := row_slice (HS.mu 4 rfl)
       refine dt_ 1 ⟨HS.nowO, HS.nowN, ⟨(HS.mu 2 rfl), (HS.mu 3 rfl), (HS.mu 8 rfl), (HS.mu 9 rfl), (HS.mu 10 rfl), trivial⟩⟩ (fun w_ hw_ => Run.loadS (cs := [(.slice A386 xs375.length c387), vi (wrap64 (t32.f1 + 1))]) rfl rfl underlying67 rfl (by kernel_rfl) (box_part hw_.2.2.1 part_all)) ?_
       refine WD.storeS 2 HS 7 rfl rfl rfl rfl (oneL rfl) (by kernel_rfl) (ble_ rfl) (cs' := #[(.slice A382 xs368.length c383), (.slice A384 xs371.length c385)]) (by kernel_rfl) (fun w388 HS => ?_)
       dsimp only [List.set] at HS
       exact by (
       refine ⟨⟨HS.nowO, HS.nowN, ⟨(HS.mu 2 rfl), (HS.mu 3 rfl), (HS.mu 8 rfl), (HS.mu 9 rfl), (HS.mu 10 rfl), trivial⟩⟩, ?_⟩
       refine WD.storeS 3 HS 6 rfl rfl rfl rfl (oneL rfl) (by kernel_rfl) (ble_ rfl) (cs' := #[(.slice A386 xs375.length c387), vi (wrap64 (t32.f1 + 1))]) (by kernel_rfl) (fun w389 HS => ?_)
       dsimp only [List.set] at HS
       refine ⟨⟨HS.nowO, HS.nowN, ⟨(HS.mu 2 rfl), (HS.mu 3 rfl), (HS.mu 8 rfl), (HS.mu 9 rfl), (HS.mu 10 rfl), trivial⟩⟩, ?_⟩
       refine dp_ 4 (fun _ => Run.assign rfl rfl) ?_
       refine dd_ (via_ hK380 (WC.ret ?_))
       clear hK380
       replace HS := HS.elsF (xs := xs368) (inner := I370) (Dk.int .i64) (fun _ _ _ h_ => ⟨h_, rfl⟩) (fun _ => (HS.getN 0 rfl))
       exact by (
       replace HS := HS.front 2 rfl
       dsimp only [List.eraseIdx] at HS
       replace HS := HS.seal rfl rfl
       replace HS := HS.front 1 rfl
       dsimp only [List.eraseIdx] at HS
       replace HS := HS.front 5 rfl
       dsimp only [List.eraseIdx] at HS
       replace HS := HS.seal rfl rfl
       exact by (
       replace HS := HS.elsF (xs := xs375) (inner := I377) (Dk.int .i64) (fun _ _ _ h_ => ⟨h_, rfl⟩) (fun _ => (HS.getN 1 rfl))
       replace HS := HS.front 5 rfl
       dsimp only [List.eraseIdx] at HS
       replace HS := HS.seal rfl rfl
       obtain ⟨rfl, rfl, rfl⟩ := (by have h_ := os H; simp only [Prod.mk.injEq] at h_; exact h_)
       exact fin3 Try.f45 rfl ⟨_, rfl, resv_box (HS.mu 6 rfl) underlying58 rfl (by kernel_rfl)⟩ ⟨_, rfl, resv_box (HS.mu 5 rfl) underlying67 rfl (by kernel_rfl)⟩ rfl hR_ ⟨_, _, _, _, _, _, rfl, (St.owns (St.front (St.front (St.front (St.forget (St.forget (St.forget (St.forget (St.forget (St.forget (St.forget HS 9 rfl) 8 rfl) 7 rfl) 6 rfl) 5 rfl) 4 rfl) 3 rfl) 0 rfl) 1 rfl) 2 rfl)), HS.b⟩ ))))
     clear hK363
     refine sr_ fun _ hK391 => ?_
     exact by (
     refine v_ (fa_ underlying67) ?_
     refine v_ (lb_ (HS.mu 10 rfl) underlying3 rfl) ?_
     refine v_ (Run.bin rfl rfl rfl (bin_rem (show (4 : Int) ≠ 0 by decide))) ?_
     refine b_ bin_gtr ?_
     refine dn_ hK391 ?_
     clear hK391
     rcases eti_ H with ⟨c392, H⟩ | ⟨c392, H⟩
     · refine wn_ (dF c392) (rg_ (v_ (fa_ underlying67) ?_))
       exact by (
       refine v_ (lb_ (HS.mu 2 rfl) underlying22 rfl) ?_
       refine mv_ ?_
       refine WL.val rfl rfl (by decide) (Run.lit1 (z := (vi 0)) (vs := [vi t334.2.1]) rfl rfl rfl underlying22 (by kernel_rfl) (ble_ rfl) (ble_ rfl)) ?_
       have HS1 := HS.below (below_alloc (Below.refl _ _) (.cells #[vi t334.2.1] 3))
       obtain ⟨q442, H⟩ := if_some H
       refine WL.append HS1 4 rfl rfl rfl (by decide) rfl (vi 0) 8 underlying22 (by kernel_rfl) rfl (by decide) (by decide) rfl rfl [vi t334.2.1] rfl (lit_news _ _ _) (oneL rfl) (by omega) ((t32.f0 ++ [t334.2.1]).length) (by simp) (fun v443 w444 I445 hI446 HS => ?_)
       dsimp only [List.set] at HS
       replace HS := HS.deriveN (p := (rF kI (t32.f0 ++ [t334.2.1]) I445)) (fun W_ hN_ => reps_snoc hI446 hN_.2.1 (K_int _))
       exact by (
       clear HS1
       refine v_ (fa_ underlying67) ?_
       obtain ⟨A448, c449, rfl⟩ := row_slice (HS.mu 4 rfl)
       refine WL.store HS 2 rfl rfl rfl rfl rfl rfl rfl (by kernel_rfl) (ble_ rfl) (cs' := #[(.slice A448 ((t32.f0 ++ [t334.2.1]).length) c449), vi (wrap64 (t32.f1 + 1))]) (by kernel_rfl) (fun w447 HS => ?_)
       dsimp only [List.set] at HS
       refine WL.done ?_
       obtain rfl := os H
       exact wv_ iq X378 ⟨t334.1, (.slice A346 t334.1.length c347), I339, (xs302.set t334.2.1.toNat (xs298 ++ [t309])), v358, I355, bl357, (t32.f0 ++ [t334.2.1]), (.slice A448 ((t32.f0 ++ [t334.2.1]).length) c449), I445, rfl, Ho367, (St.pk (St.forget HS 6 rfl) [0, 1, 2, 3, 4] [1, 0] rfl rfl)⟩ ))
     exact by (
     refine wy_ (dT c392) (sr_ fun _ hK393 => ?_)
     refine v_ (fa_ underlying67) ?_
     refine v_ (lb_ (HS.mu 10 rfl) underlying22 rfl) ?_
     refine mv_ ?_
     obtain ⟨⟨q394, q395⟩, H⟩ := if_some H
     obtain ⟨ad396, rfl⟩ := C_open (HS.getO 2 rfl) (lenpos q394 q395)
     refine v_ (ia_ underlying22 1 q394 q395) ?_
     refine v_ (Run.load rfl rfl underlying3 rfl (int_cell (HS.getO 2 rfl) (wrap64 ((x1.f0.length : Int) - 1)) q394 q395)) ?_
     exact by (
     refine ci_ (args := [.pointer (some ⟨b39, 0, none⟩), vi (x1.f0.getD (wrap64 ((x1.f0.length : Int) - 1)).toNat 0)]) func110 ?_
     refine cw_ (n := 27) func110 fun _ hR397 => ?_
     refine WC.endK (fun _ hK398 => ?_)
     refine sr_ fun _ hK399 => ?_
     refine mv_ ?_
     refine v_ (Run.nilCheck rfl rfl) ?_
     refine v_ (fa_ underlying58) ?_
     refine v_ (lb_ (HS.mu 3 rfl) underlying22 rfl) ?_
     exact by (
     refine mv_ ?_
     obtain ⟨⟨q400, q401⟩, H⟩ := if_some H
     obtain ⟨ad402, rfl⟩ := row_open (HS.mu 1 rfl) (lenpos q400 q401)
     refine v_ (ia_ underlying22 1 q400 q401) ?_
     refine v_ (Run.load rfl rfl underlying3 rfl (row_int (HS.mu 1 rfl) (HS.getN 0 rfl) q400 q401)) ?_
     refine b_ bin_sub64 ?_
     refine v_ (ia_ underlying22 1 q400 q401) ?_
     have hk_ := mul_room q400 q401 1
     exact by (
     refine WL.putEl HS 1 rfl rfl rfl rfl rfl rfl [vi (wrap64 ((t334.1.getD (x1.f0.getD (wrap64 ((x1.f0.length : Int) - 1)).toNat 0).toNat 0) - 1))] rfl (oneL rfl) (by kernel_rfl) (by first | omega | (rw [List.length_nil]; omega) | (simp; omega)) (fun w403 I404 hI405 HS => ?_)
     dsimp only [List.set] at HS
     clear hk_
     replace HS := HS.deriveN (p := (rF kI (t334.1.set (x1.f0.getD (wrap64 ((x1.f0.length : Int) - 1)).toNat 0).toNat (wrap64 ((t334.1.getD (x1.f0.getD (wrap64 ((x1.f0.length : Int) - 1)).toNat 0).toNat 0) - 1))) I404)) (fun W_ hN_ => reps_set hI405 hN_.1 (K_int _) (toNat_lt q400 q401))
     replace HS := HS.rowN 1 rfl (show t334.1.length = (t334.1.set (x1.f0.getD (wrap64 ((x1.f0.length : Int) - 1)).toNat 0).toNat (wrap64 ((t334.1.getD (x1.f0.getD (wrap64 ((x1.f0.length : Int) - 1)).toNat 0).toNat 0) - 1))).length from (List.length_set ..).symm)
     dsimp only [List.set] at HS
     generalize hv407 : (Value.slice (some ad402) t334.1.length c347) = v406 at HS ⊢
     refine dn_ hK399 (sr_ fun _ hK408 => ?_)
     exact by (
     clear hK399
     refine mv_ ?_
     refine v_ (Run.nilCheck rfl rfl) ?_
     refine v_ (fa_ underlying58) ?_
     obtain ⟨A409, c410, rfl⟩ := row_slice (HS.mu 1 rfl)
     refine v_ (lb_ (HS.mu 3 rfl) underlying22 rfl) ?_
     refine mv_ ?_
     obtain ⟨⟨q411, q412⟩, H⟩ := if_some H
     exact by (
     obtain ⟨ad413, rfl⟩ := row_open (HS.mu 1 rfl) (lenpos q411 q412)
     refine v_ (ia_ underlying22 1 q411 q412) ?_
     refine v_ (Run.load rfl rfl underlying3 rfl (row_int (HS.mu 1 rfl) (HS.getN 0 rfl) q411 q412)) ?_
     refine b_ bin_eql ?_
     refine dn_ hK408 ?_
     clear hK408
     rcases eti_ H with ⟨c414, H⟩ | ⟨c414, H⟩
     · refine wn_ (eF c414) (WC.skip (viaQ_ hK398 ?_))
       exact by (
       refine fin0 Try.f110 hR397 ⟨_, rfl, ?_⟩ (Or.inr rfl)
       refine dn_ hK393 (rg_ (v_ (fa_ underlying67) ?_))
       clear hK393
       refine v_ (lb_ (HS.mu 2 rfl) underlying22 rfl) ?_
       refine mv_ ?_
       refine mv_ ?_
       obtain ⟨⟨q434, q435⟩, H⟩ := if_some H
       obtain ⟨ad436, rfl⟩ := row_open (HS.mu 4 rfl) (lenpos q434 q435)
       exact by (
       refine v_ (ia_ underlying22 1 q434 q435) ?_
       have hk_ := mul_room q434 q435 1
       refine WL.putEl HS 4 rfl rfl rfl rfl rfl rfl [vi t334.2.1] rfl (oneL rfl) (by kernel_rfl) (by first | omega | (rw [List.length_nil]; omega) | (simp; omega)) (fun w437 I438 hI439 HS => ?_)
       dsimp only [List.set] at HS
       clear hk_
       replace HS := HS.deriveN (p := (rF kI (t32.f0.set (wrap64 ((x1.f0.length : Int) - 1)).toNat t334.2.1) I438)) (fun W_ hN_ => reps_set hI439 hN_.2.2.1 (K_int _) (toNat_lt q434 q435))
       replace HS := HS.rowN 4 rfl (show t32.f0.length = (t32.f0.set (wrap64 ((x1.f0.length : Int) - 1)).toNat t334.2.1).length from (List.length_set ..).symm)
       dsimp only [List.set] at HS
       exact by (
       generalize hv441 : (Value.slice (some ad436) t32.f0.length c50) = v440 at HS ⊢
       refine WL.done ?_
       obtain rfl := os H
       exact wv_ iq X378 ⟨(t334.1.set (x1.f0.getD (wrap64 ((x1.f0.length : Int) - 1)).toNat 0).toNat (wrap64 ((t334.1.getD (x1.f0.getD (wrap64 ((x1.f0.length : Int) - 1)).toNat 0).toNat 0) - 1))), (.slice (some ad413) ((t334.1.set (x1.f0.getD (wrap64 ((x1.f0.length : Int) - 1)).toNat 0).toNat (wrap64 ((t334.1.getD (x1.f0.getD (wrap64 ((x1.f0.length : Int) - 1)).toNat 0).toNat 0) - 1))).length) c410), I404, (xs302.set t334.2.1.toNat (xs298 ++ [t309])), v358, I355, bl357, (t32.f0.set (wrap64 ((x1.f0.length : Int) - 1)).toNat t334.2.1), v440, I438, rfl, Ho367, (St.pk (St.forget HS 6 rfl) [0, 1, 2, 3, 4] [1, 0] rfl rfl)⟩ )))
     refine wy_ (eT c414) (rg_ (mv_ ?_))
     refine v_ (Run.nilCheck rfl rfl) ?_
     refine v_ (fa_ underlying58) ?_
     obtain ⟨A415, c416, rfl⟩ := row_slice (HS.mu 5 rfl)
     exact by (
     refine v_ (lb_ (HS.mu 3 rfl) underlying56 rfl) ?_
     refine mv_ ?_
     obtain ⟨⟨q417, q418⟩, H⟩ := if_some H
     obtain ⟨ad419, rfl⟩ := row_open (HS.mu 5 rfl) (lenpos q417 q418)
     refine v_ (ia_ underlying56 1 q417 q418) ?_
     have hk_ := mul_room q417 q418 1
     refine WL.putEl HS 5 rfl rfl rfl rfl rfl rfl [sn] rfl (oneL rfl) (by kernel_rfl) (by first | omega | (rw [List.length_nil]; omega) | (simp; omega)) (fun w420 I421 hI422 HS => ?_)
     dsimp only [List.set] at HS
     exact by (
     clear hk_
     replace HS := HS.rowN 5 rfl (show (xs302.set t334.2.1.toNat (xs298 ++ [t309])).length = ((xs302.set t334.2.1.toNat (xs298 ++ [t309])).set (x1.f0.getD (wrap64 ((x1.f0.length : Int) - 1)).toNat 0).toNat ([])).length from (List.length_set ..).symm)
     dsimp only [List.set] at HS
     replace HS := HS.nilV (α := S62) 62 (dq62)
     replace HS := HS.front 1 rfl
     dsimp only [List.eraseIdx] at HS
     replace HS := HS.front 1 rfl
     dsimp only [List.eraseIdx] at HS
     exact by (
     obtain ⟨bl423, HS⟩ := HS.elsSet (x1.f0.getD (wrap64 ((x1.f0.length : Int) - 1)).toNat 0).toNat rfl hI422 (toNat_lt q417 q418)
     generalize hv425 : (Value.slice (some ad419) ((xs302.set t334.2.1.toNat (xs298 ++ [t309])).length) c416) = v424 at HS ⊢
     refine WL.done ?_
     refine viaQ_ hK398 ?_
     refine fin0 Try.f110 hR397 ⟨_, rfl, ?_⟩ (Or.inr rfl)
     refine dn_ hK393 (rg_ (v_ (fa_ underlying67) ?_))
     clear hK393
     refine v_ (lb_ (HS.mu 2 rfl) underlying22 rfl) ?_
     exact by (
     refine mv_ ?_
     refine mv_ ?_
     obtain ⟨⟨q426, q427⟩, H⟩ := if_some H
     obtain ⟨ad428, rfl⟩ := row_open (HS.mu 4 rfl) (lenpos q426 q427)
     refine v_ (ia_ underlying22 1 q426 q427) ?_
     have hk_ := mul_room q426 q427 1
     refine WL.putEl HS 4 rfl rfl rfl rfl rfl rfl [vi t334.2.1] rfl (oneL rfl) (by kernel_rfl) (by first | omega | (rw [List.length_nil]; omega) | (simp; omega)) (fun w429 I430 hI431 HS => ?_)
     dsimp only [List.set] at HS
     exact by (
     clear hk_
     replace HS := HS.deriveN (p := (rF kI (t32.f0.set (wrap64 ((x1.f0.length : Int) - 1)).toNat t334.2.1) I430)) (fun W_ hN_ => reps_set hI431 hN_.2.2.1 (K_int _) (toNat_lt q426 q427))
     replace HS := HS.rowN 4 rfl (show t32.f0.length = (t32.f0.set (wrap64 ((x1.f0.length : Int) - 1)).toNat t334.2.1).length from (List.length_set ..).symm)
     dsimp only [List.set] at HS
     generalize hv433 : (Value.slice (some ad428) t32.f0.length c50) = v432 at HS ⊢
     refine WL.done ?_
     obtain rfl := os H
     exact wv_ iq X378 ⟨(t334.1.set (x1.f0.getD (wrap64 ((x1.f0.length : Int) - 1)).toNat 0).toNat (wrap64 ((t334.1.getD (x1.f0.getD (wrap64 ((x1.f0.length : Int) - 1)).toNat 0).toNat 0) - 1))), (.slice (some ad413) ((t334.1.set (x1.f0.getD (wrap64 ((x1.f0.length : Int) - 1)).toNat 0).toNat (wrap64 ((t334.1.getD (x1.f0.getD (wrap64 ((x1.f0.length : Int) - 1)).toNat 0).toNat 0) - 1))).length) c410), I404, ((xs302.set t334.2.1.toNat (xs298 ++ [t309])).set (x1.f0.getD (wrap64 ((x1.f0.length : Int) - 1)).toNat 0).toNat ([])), v424, I421, bl423, (t32.f0.set (wrap64 ((x1.f0.length : Int) - 1)).toNat t334.2.1), v432, I430, rfl, Ho367, (St.pk (St.forget HS 6 rfl) [0, 1, 2, 3, 4] [1, 0] rfl rfl)⟩ )))))))))))))))))))))))))))))))
   exact by (
   clear hK293
   refine sr_ fun _ hK457 => ?_
   refine v_ (fa_ underlying67) ?_
   refine v_ (lb_ (HS.mu 11 rfl) underlying3 rfl) ?_
   refine v_ (Run.bin rfl rfl rfl (bin_rem (show (4 : Int) ≠ 0 by decide))) ?_
   refine b_ bin_gtr ?_
   refine dn_ hK457 ?_
   clear hK457
   exact by (
   rcases eti_ H with ⟨c458, H⟩ | ⟨c458, H⟩
   · refine wn_ (dF c458) (WC.skip ?_)
     obtain rfl := os H
     exact wv_ iq X306 ⟨([] : List S62), v289, ([]), ([]), t21.f1, (.slice A46 t21.f1.length c47), I30, bl31, rfl, Ho297, HS⟩
   refine wy_ (dT c458) (sr_ fun _ hK459 => ?_)
   refine v_ (fa_ underlying67) ?_
   refine v_ (lb_ (HS.mu 11 rfl) underlying22 rfl) ?_
   refine mv_ ?_
   exact by (
   obtain ⟨⟨q460, q461⟩, H⟩ := if_some H
   obtain ⟨ad462, rfl⟩ := C_open (HS.getO 2 rfl) (lenpos q460 q461)
   refine v_ (ia_ underlying22 1 q460 q461) ?_
   refine v_ (Run.load rfl rfl underlying3 rfl (int_cell (HS.getO 2 rfl) (wrap64 ((x1.f0.length : Int) - 1)) q460 q461)) ?_
   refine ad_ hK459 ?_
   clear hK459
   refine WC.seq fun _ hK463 => ?_
   refine WC.drawS HS [] rfl rfl (fun w464 HS => ?_)
   exact by (
   have HB := Below.refl w464.heap.size w464
   have HSW := HS
   refine df_ 0 underlying58 ?_
   refine dm_ 2 ?_
   refine df_ 5 underlying67 ?_
   refine bl_ 1 HS (Below.refl _ _) 12 underlying56 rfl ?_
   obtain ⟨⟨q465, q466⟩, H⟩ := if_some H
   obtain ⟨ad467, rfl⟩ := C_open (HS.getO 1 rfl) (lenpos q465 q466)
   exact by (
   refine di_ 3 underlying56 1 q465 q466 ?_
   obtain ⟨A468, c469, le470, HS⟩ := HS.slO 1 rfl (x1.f0.getD (wrap64 ((x1.f0.length : Int) - 1)).toNat 0) q465 q466
   replace HSW := HS
   refine dt_ 4 (Below.refl _ _) (fun w_ hw_ => Run.load rfl rfl underlying71 rfl ((HS.below hw_).getO 1 rfl)) ?_
   refine bl_ 6 HS (Below.refl _ _) 11 underlying3 rfl ?_
   refine dp_ 7 (fun _ => Run.bin rfl rfl rfl (bin_rem (show (4 : Int) ≠ 0 by decide))) ?_
   obtain ⟨⟨q471, q472⟩, H⟩ := if_some H
   obtain ⟨A473, c474, he475, le476, hf477⟩ := slc_take k62 A468 c469 (x0.f1.getD (x1.f0.getD (wrap64 ((x1.f0.length : Int) - 1)).toNat 0).toNat []) (Int.tmod x1.f1 4) q471 q472 le470
   exact by (
   replace HS := HS.deriveO (p := (cF k62 A473 ((x0.f1.getD (x1.f0.getD (wrap64 ((x1.f0.length : Int) - 1)).toNat 0).toNat []).take (Int.tmod x1.f1 4).toNat))) (fun W_ hO_ hN_ => hf477 W_ hO_.1)
   refine dp_ 8 (fun _ => Run.eqv he475 (Run.slH rfl underlying71 (by kernel_rfl) rfl rfl q471 (Int.le_trans q472 (Int.ofNat_le.mpr le470)))) ?_
   obtain ⟨t478, ha479, H⟩ := bind_some H
   refine dc_ 9 (w_none rfl) func107 (impl_cloneCells.runs k A473 c474 ((x0.f1.getD (x1.f0.getD (wrap64 ((x1.f0.length : Int) - 1)).toNat 0).toNat []).take (Int.tmod x1.f1 4).toNat) t478 _ (HS.getO 0 rfl) le476 ha479) ?_
   clear ha479
   rintro _ w480 ⟨v481, bl482, rfl, hO_, hb⟩
   replace HB := HB.trans (hb.mono HB.size)
   replace HS := HS.got hb hO_
   exact by (
   dsimp only [List.cons_append, List.nil_append] at HS
   clear hO_
   obtain ⟨I483, bl484, HS⟩ := HS.unseal (sz := 2) rfl
   refine ⟨HB, _, rfl, ?_⟩
   clear hb
   refine dp_ 10 (fun _ => Run.assign rfl rfl) ?_
   refine dd_ ?_
   clear HB HSW
   exact by (
   refine via_ hK463 (sr_ fun _ hK485 => ?_)
   clear hK463
   refine v_ (fa_ underlying58) ?_
   refine v_ (lb_ (HS.mu 14 rfl) underlying22 rfl) ?_
   refine mv_ ?_
   obtain ⟨⟨q486, q487⟩, H⟩ := if_some H
   obtain ⟨ad488, rfl⟩ := C_open (HS.getO 3 rfl) (lenpos q486 q487)
   refine v_ (ia_ underlying22 1 q486 q487) ?_
   exact by (
   refine v_ (Run.load rfl rfl underlying3 rfl (int_cell (HS.getO 3 rfl) (x1.f0.getD (wrap64 ((x1.f0.length : Int) - 1)).toNat 0) q486 q487)) ?_
   refine b_ bin_eql ?_
   refine ad_ hK485 ?_
   clear hK485
   refine sr_ fun _ hK489 => ?_
   refine mv_ ?_
   refine dn_ hK489 ?_
   clear hK489
   exact by (
   rcases eti_ H with ⟨c490, H⟩ | ⟨c490, H⟩
   · refine wn_ (eF c490) (WC.skip ?_)
     obtain rfl := os H
     exact wv_ iq X306 ⟨t478, v481, I483, bl484, t21.f1, (.slice A46 t21.f1.length c47), I30, bl31, rfl, Ho297, (St.pk (St.front (St.front (St.front (St.front (St.front (St.front (St.front (St.front (St.front (St.front (St.front (St.front (St.front (St.forget (St.forget HS 3 rfl) 2 rfl) 12 rfl) 12 rfl) 12 rfl) 12 rfl) 12 rfl) 12 rfl) 12 rfl) 12 rfl) 12 rfl) 12 rfl) 12 rfl) 11 rfl) 12 rfl) [3, 4, 5, 6, 7] [0, 1] rfl rfl)⟩
   refine wy_ (eT c490) (WC.seq fun _ hK491 => ?_)
   refine WC.drawW HS [boxM b41 #[(.slice A49 t32.f0.length c50), vi (wrap64 (t32.f1 + 1))] 67, boxM b39 #[(.slice A44 t21.f0.length c45), (.slice A46 t21.f1.length c47)] 58, boxM b10 #[sn, vi 0] 67, boxM b8 #[sn, sn] 58, boxM b6 #[.slice A2_0 x2.f0.length c2_0, .slice A2_1 x2.f1.length c2_1] 62, boxM b4 #[.slice (some ad462) x1.f0.length c1_0, vi x1.f1] 67, boxM b2 #[.slice (some ad488) x0.f0.length c0_0, .slice (some ad467) x0.f1.length c0_1] 58] (fun _ HS => ⟨(HS.mu 4 rfl), (HS.mu 5 rfl), (HS.mu 10 rfl), (HS.mu 11 rfl), (HS.mu 12 rfl), (HS.mu 13 rfl), (HS.mu 14 rfl), trivial⟩) [9] rfl rfl (fun w492 HS => ?_)
   refine df_ 0 underlying58 ?_
   refine dm_ 2 ?_
   exact by (
   refine dm_ 3 ?_
   refine dt_ 1 ⟨HS.nowO, HS.nowN, ⟨(HS.mu 4 rfl), (HS.mu 5 rfl), (HS.mu 10 rfl), (HS.mu 11 rfl), (HS.mu 12 rfl), (HS.mu 13 rfl), (HS.mu 14 rfl), trivial⟩⟩ (fun w_ hw_ => Run.load rfl rfl underlying56 rfl (box_cell hw_.2.2.2.1 rfl)) ?_
   refine dt_ 4 ⟨HS.nowO, HS.nowN, ⟨(HS.mu 4 rfl), (HS.mu 5 rfl), (HS.mu 10 rfl), (HS.mu 11 rfl), (HS.mu 12 rfl), (HS.mu 13 rfl), (HS.mu 14 rfl), trivial⟩⟩ (fun w_ hw_ => Run.loadS (cs := [.slice A2_0 x2.f0.length c2_0, .slice A2_1 x2.f1.length c2_1]) rfl rfl underlying62 rfl (by kernel_rfl) (box_part hw_.2.2.2.2.2.2.1 part_all)) ?_
   obtain ⟨t493, ha494, H⟩ := bind_some H
   refine dc_ 5 (w_none rfl) func108 (impl_cloneCell.runs k (⟨x2.f0, x2.f1⟩ : S62) A2_0 c2_0 A2_1 c2_1 t493 _ (HS.getO 6 rfl) hc2_0 (HS.getO 7 rfl) hc2_1 ha494) ?_
   clear ha494
   rintro _ w495 ⟨v496, bl497, v498, bl499, rfl, hO_, hb⟩
   replace HS := HS.got hb hO_
   exact by (
   dsimp only [List.cons_append, List.nil_append] at HS
   clear hO_
   obtain ⟨I500, bl501, HS⟩ := HS.unseal (sz := 1) rfl
   replace HS := HS.front 2 rfl
   dsimp only [List.eraseIdx] at HS
   obtain ⟨I502, bl503, HS⟩ := HS.unseal (sz := 1) rfl
   refine ⟨⟨HS.nowO, HS.nowN, ⟨(HS.mu 8 rfl), (HS.mu 9 rfl), (HS.mu 14 rfl), (HS.mu 15 rfl), (HS.mu 16 rfl), (HS.mu 17 rfl), (HS.mu 18 rfl), trivial⟩⟩, _, rfl, ?_⟩
   clear hb
   exact by (
   obtain ⟨A504, c505, rfl⟩ := row_slice (HS.mu 2 rfl)
   obtain ⟨A506, c507, rfl⟩ := row_slice (HS.mu 0 rfl)
   have HS1 := HS.below (below_alloc (Below.refl _ _) (.cells #[(.slice A504 t493.f0.length c505), (.slice A506 t493.f1.length c507)] 62))
   refine dv_ 6 (w_none rfl) (Run.lit1 (z := (.agg #[sn, sn])) (vs := [(.slice A504 t493.f0.length c505), (.slice A506 t493.f1.length c507)]) rfl rfl rfl underlying71 (by kernel_rfl) (ble_ rfl) (ble_ rfl)) ⟨HS1.nowO, HS1.nowN, ⟨(HS1.mu 8 rfl), (HS1.mu 9 rfl), (HS1.mu 14 rfl), (HS1.mu 15 rfl), (HS1.mu 16 rfl), (HS1.mu 17 rfl), (HS1.mu 18 rfl), trivial⟩⟩ ?_
   obtain ⟨q508, H⟩ := if_some H
   refine WD.append 7 (w_none rfl) HS1 4 rfl rfl (.agg #[sn, sn]) 48 underlying71 (by kernel_rfl) rfl (by decide) (by decide) rfl rfl [(.slice A504 t493.f0.length c505), (.slice A506 t493.f1.length c507)] rfl (lit_news _ _ _) (oneL rfl) (by omega) ((t478 ++ [t493]).length) (by simp) (fun v509 w510 I511 hI512 HS => ?_)
   dsimp only [List.set] at HS
   clear HS1
   exact by (
   replace HS := HS.front 3 rfl
   dsimp only [List.eraseIdx] at HS
   replace HS := HS.front 3 rfl
   dsimp only [List.eraseIdx] at HS
   replace HS := HS.seal rfl rfl
   replace HS := HS.front 2 rfl
   dsimp only [List.eraseIdx] at HS
   replace HS := HS.front 2 rfl
   exact by (
   dsimp only [List.eraseIdx] at HS
   replace HS := HS.seal rfl rfl
   replace HS := HS.front 1 rfl
   dsimp only [List.eraseIdx] at HS
   replace HS := HS.both
   replace HS := HS.put0 (valM dq62 t493 ([(.slice A504 t493.f0.length c505), (.slice A506 t493.f1.length c507)]) ((((.slice A504 t493.f0.length c505) : Value).ownBlock.toList ++ bl501) ++ (((.slice A506 t493.f1.length c507) : Value).ownBlock.toList ++ bl503))) (fun hP_ => foot_val (dq62_mk _ t493 hP_.1 hP_.2)) (fun h_ => h_) (fun _ h_ => h_)
   replace HS := HS.front 2 rfl
   dsimp only [List.eraseIdx] at HS
   exact by (
   replace HS := HS.front 1 rfl
   dsimp only [List.eraseIdx] at HS
   replace HS := HS.elsSnoc hI512
   refine ⟨⟨HS.nowO, HS.nowN, ⟨(HS.mu 4 rfl), (HS.mu 5 rfl), (HS.mu 10 rfl), (HS.mu 11 rfl), (HS.mu 12 rfl), (HS.mu 13 rfl), (HS.mu 14 rfl), trivial⟩⟩, ?_⟩
   obtain ⟨⟨q513, q514⟩, H⟩ := if_some H
   obtain ⟨ad515, rfl⟩ := row_open (HS.mu 7 rfl) (lenpos q513 q514)
   refine di_ 8 underlying56 1 q513 q514 ?_
   obtain ⟨A519, c520, rfl⟩ := row_slice (HS.mu 1 rfl)
   exact by (
   have hk_ := mul_room q513 q514 1
   refine WD.putElL 9 HS 7 rfl rfl rfl rfl [(.slice A519 ((t478 ++ [t493]).length) c520)] rfl (oneL rfl) (by kernel_rfl) (by first | omega | (rw [List.length_nil]; omega) | (simp; omega)) (fun w516 I517 hI518 HS => ?_)
   dsimp only [List.set] at HS
   clear hk_
   replace HS := HS.rowN 7 rfl (show t21.f1.length = (t21.f1.set (x1.f0.getD (wrap64 ((x1.f0.length : Int) - 1)).toNat 0).toNat (t478 ++ [t493])).length from (List.length_set ..).symm)
   dsimp only [List.set] at HS
   replace HS := HS.front 1 rfl
   dsimp only [List.eraseIdx] at HS
   exact by (
   replace HS := HS.seal rfl rfl
   replace HS := HS.front 7 rfl
   dsimp only [List.eraseIdx] at HS
   replace HS := HS.front 1 rfl
   dsimp only [List.eraseIdx] at HS
   obtain ⟨bl521, HS⟩ := HS.elsSet (x1.f0.getD (wrap64 ((x1.f0.length : Int) - 1)).toNat 0).toNat rfl hI518 (toNat_lt q513 q514)
   generalize hv523 : (Value.slice (some ad515) t21.f1.length c47) = v522 at HS ⊢
   refine dd_ (via_ hK491 (WC.seq fun _ hK524 => ?_))
   exact by (
   clear hK491
   refine WC.drawW HS [boxM b41 #[(.slice A49 t32.f0.length c50), vi (wrap64 (t32.f1 + 1))] 67, boxM b39 #[(.slice A44 t21.f0.length c45), v522] 58, boxM b6 #[.slice A2_0 x2.f0.length c2_0, .slice A2_1 x2.f1.length c2_1] 62, boxM b4 #[.slice (some ad462) x1.f0.length c1_0, vi x1.f1] 67, boxM b2 #[.slice (some ad488) x0.f0.length c0_0, .slice (some ad467) x0.f1.length c0_1] 58] (fun _ HS => ⟨(HS.mu 3 rfl), (HS.mu 4 rfl), (HS.mu 10 rfl), (HS.mu 11 rfl), (HS.mu 12 rfl), trivial⟩) [] rfl rfl (fun w525 HS => ?_)
   obtain ⟨A526, c527, rfl⟩ := row_slice (HS.mu 6 rfl)
   refine dt_ 0 ⟨HS.nowO, HS.nowN, ⟨(HS.mu 3 rfl), (HS.mu 4 rfl), (HS.mu 10 rfl), (HS.mu 11 rfl), (HS.mu 12 rfl), trivial⟩⟩ (fun w_ hw_ => Run.loadS (cs := [(.slice A44 t21.f0.length c45), (.slice A526 ((t21.f1.set (x1.f0.getD (wrap64 ((x1.f0.length : Int) - 1)).toNat 0).toNat (t478 ++ [t493])).length) c527)]) rfl rfl underlying58 rfl (by kernel_rfl) (box_part hw_.2.2.2.1 part_all)) ?_
   refine dt_ 1 ⟨HS.nowO, HS.nowN, ⟨(HS.mu 3 rfl), (HS.mu 4 rfl), (HS.mu 10 rfl), (HS.mu 11 rfl), (HS.mu 12 rfl), trivial⟩⟩ (fun w_ hw_ => Run.loadS (cs := [(.slice A49 t32.f0.length c50), vi (wrap64 (t32.f1 + 1))]) rfl rfl underlying67 rfl (by kernel_rfl) (box_part hw_.2.2.1 part_all)) ?_
   refine WD.storeS 2 HS 9 rfl rfl rfl rfl (oneL rfl) (by kernel_rfl) (ble_ rfl) (cs' := #[(.slice A44 t21.f0.length c45), (.slice A526 ((t21.f1.set (x1.f0.getD (wrap64 ((x1.f0.length : Int) - 1)).toNat 0).toNat (t478 ++ [t493])).length) c527)]) (by kernel_rfl) (fun w528 HS => ?_)
   dsimp only [List.set] at HS
   refine ⟨⟨HS.nowO, HS.nowN, ⟨(HS.mu 3 rfl), (HS.mu 4 rfl), (HS.mu 10 rfl), (HS.mu 11 rfl), (HS.mu 12 rfl), trivial⟩⟩, ?_⟩
   exact by (
   refine WD.storeS 3 HS 8 rfl rfl rfl rfl (oneL rfl) (by kernel_rfl) (ble_ rfl) (cs' := #[(.slice A49 t32.f0.length c50), vi (wrap64 (t32.f1 + 1))]) (by kernel_rfl) (fun w529 HS => ?_)
   dsimp only [List.set] at HS
   refine ⟨⟨HS.nowO, HS.nowN, ⟨(HS.mu 3 rfl), (HS.mu 4 rfl), (HS.mu 10 rfl), (HS.mu 11 rfl), (HS.mu 12 rfl), trivial⟩⟩, ?_⟩
   refine dp_ 4 (fun _ => Run.assign rfl rfl) ?_
   refine dd_ (via_ hK524 (WC.ret ?_))
   clear hK524
   replace HS := HS.elsF (xs := t21.f0) (inner := I28) (Dk.int .i64) (fun _ _ _ h_ => ⟨h_, rfl⟩) (fun _ => (HS.getN 1 rfl))
   replace HS := HS.front 8 rfl
   exact by (
   dsimp only [List.eraseIdx] at HS
   replace HS := HS.seal rfl rfl
   replace HS := HS.front 1 rfl
   dsimp only [List.eraseIdx] at HS
   replace HS := HS.front 7 rfl
   dsimp only [List.eraseIdx] at HS
   replace HS := HS.seal rfl rfl
   replace HS := HS.elsF (xs := t32.f0) (inner := I37) (Dk.int .i64) (fun _ _ _ h_ => ⟨h_, rfl⟩) (fun _ => (HS.getN 0 rfl))
   exact by (
   replace HS := HS.front 7 rfl
   dsimp only [List.eraseIdx] at HS
   replace HS := HS.seal rfl rfl
   obtain rfl := os H
   rw [hG295] at Ho297
   replace H : some _ = some _ := Ho297
   obtain ⟨rfl, rfl, rfl⟩ := (by have h_ := os H; simp only [Prod.mk.injEq] at h_; exact h_)
   exact fin3 Try.f45 rfl ⟨_, rfl, resv_box (HS.mu 8 rfl) underlying58 rfl (by kernel_rfl)⟩ ⟨_, rfl, resv_box (HS.mu 7 rfl) underlying67 rfl (by kernel_rfl)⟩ rfl hR_ ⟨_, _, _, _, _, _, rfl, (St.owns (St.front (St.front (St.front (St.forget (St.forget (St.forget (St.forget (St.forget (St.forget (St.forget (St.forget (St.forget HS 11 rfl) 10 rfl) 9 rfl) 8 rfl) 7 rfl) 6 rfl) 5 rfl) 4 rfl) 3 rfl) 0 rfl) 1 rfl) 2 rfl)), HS.b⟩ )))))))))))))))))))))))))
 exact by (
 refine three__ 1 4 5 ?_ ?_ ?_
 · have HT_ := True.intro
   obtain ⟨t21, ha22, H⟩ := bind_some H
   refine dco_ 1 (w_none rfl) func105 (impl_cloneStore.runs k (⟨x0.f0, x0.f1⟩ : S58) A0_0 c0_0 A0_1 c0_1 t21 _ (HS.getO 0 rfl) hc0_0 (HS.getO 1 rfl) hc0_1 ha22) ?_
   clear ha22
   rintro _ w23 ⟨v24, bl25, v26, bl27, rfl, hO_, hb⟩
   replace HS := HS.got hb hO_
   dsimp only [List.cons_append, List.nil_append] at HS
   exact by (
   clear hO_
   obtain ⟨I28, bl29, HS⟩ := HS.unseal (sz := 1) rfl
   replace HS := HS.freezeN 1 (p := (rF kI t21.f0 I28)) rfl (fun _ hP_ _ => RepsB.reps hP_)
   dsimp only [List.eraseIdx] at HS
   replace HS := HS.front 1 rfl
   dsimp only [List.eraseIdx] at HS
   obtain ⟨I30, bl31, HS⟩ := HS.unseal (sz := 1) rfl
   refine ⟨⟨HS.nowO, HS.nowN.2, ⟨(HS.mu 3 rfl), (HS.mu 4 rfl), (HS.mu 5 rfl), (HS.mu 6 rfl), (HS.mu 7 rfl), trivial⟩⟩, _, rfl, ?_⟩
   exact by (
   clear hb
   refine three__ 3 4 5 ?_ ?_ ?_
   · have HT_ := True.intro
     obtain ⟨t32, ha33, H⟩ := bind_some H
     refine dco_ 3 (w_none rfl) func106 (impl_cloneTable.runs k (⟨x1.f0, x1.f1⟩ : S67) A1_0 c1_0 t32 _ (HS.getO 2 rfl) hc1_0 ha33) ?_
     clear ha33
     rintro _ w34 ⟨v35, bl36, rfl, hO_, hb⟩
     replace HS := HS.got hb hO_
     exact by (
     dsimp only [List.cons_append, List.nil_append] at HS
     clear hO_
     obtain ⟨I37, bl38, HS⟩ := HS.unseal (sz := 1) rfl
     replace HS := HS.freezeN 1 (p := (rF kI t32.f0 I37)) rfl (fun _ hP_ _ => RepsB.reps hP_)
     dsimp only [List.eraseIdx] at HS
     refine ⟨⟨HS.nowO, HS.nowN.2.2, ⟨(HS.mu 4 rfl), (HS.mu 5 rfl), (HS.mu 6 rfl), (HS.mu 7 rfl), (HS.mu 8 rfl), trivial⟩⟩, _, rfl, ?_⟩
     clear hb
     refine two__ 4 5 ?_ ?_
     · have HT_ := True.intro
       exact by (
       refine WDo.alloc (v := .agg #[sn, sn]) (cs := #[sn, sn]) 4 (w_none rfl) HS rfl (by kernel_rfl) rfl (fun b39 w40 hb39 HS => ?_)
       refine ⟨⟨HS.nowO, HS.nowN.2.2, ⟨(HS.mu 5 rfl), (HS.mu 6 rfl), (HS.mu 7 rfl), (HS.mu 8 rfl), (HS.mu 9 rfl), trivial⟩⟩, ?_⟩
       refine WD.alloc (v := .agg #[sn, vi 0]) (cs := #[sn, vi 0]) 5 (w_none rfl) HS rfl (by kernel_rfl) rfl (fun b41 w42 hb41 HS => ?_)
       refine ⟨⟨HS.nowO, HS.nowN.2.2, ⟨(HS.mu 6 rfl), (HS.mu 7 rfl), (HS.mu 8 rfl), (HS.mu 9 rfl), (HS.mu 10 rfl), trivial⟩⟩, ?_⟩
       obtain ⟨A44, c45, rfl⟩ := row_slice (HS.mu 5 rfl)
       obtain ⟨A46, c47, rfl⟩ := row_slice (HS.mu 3 rfl)
       refine WD.storeS 6 HS 1 rfl rfl rfl rfl (oneL rfl) (by kernel_rfl) (ble_ rfl) (cs' := #[(.slice A44 t21.f0.length c45), (.slice A46 t21.f1.length c47)]) (by kernel_rfl) (fun w43 HS => ?_)
       dsimp only [List.set] at HS
       exact by (
       refine ⟨⟨HS.nowO, HS.nowN.2.2, ⟨(HS.mu 6 rfl), (HS.mu 7 rfl), (HS.mu 8 rfl), (HS.mu 9 rfl), (HS.mu 10 rfl), trivial⟩⟩, ?_⟩
       obtain ⟨A49, c50, rfl⟩ := row_slice (HS.mu 2 rfl)
       refine WD.storeSL 7 HS 0 rfl rfl rfl rfl (oneL rfl) (by kernel_rfl) (ble_ rfl) (cs' := #[(.slice A49 t32.f0.length c50), vi t32.f1]) (by kernel_rfl) (fun w48 HS => ?_)
       dsimp only [List.set] at HS
       exact dd_ (wv_ iq X20 ⟨b39, b41, A44, t21, c45, A46, c47, A49, t32, c50, I37, I30, bl31, I28, rfl, H, HS⟩) ))
     · have HT_ := True.intro
       refine WDo.alloc (v := .agg #[sn, vi 0]) (cs := #[sn, vi 0]) 5 (w_none rfl) HS rfl (by kernel_rfl) rfl (fun b51 w52 hb51 HS => ?_)
       refine ⟨⟨HS.nowO, HS.nowN.2.2, ⟨(HS.mu 5 rfl), (HS.mu 6 rfl), (HS.mu 7 rfl), (HS.mu 8 rfl), (HS.mu 9 rfl), trivial⟩⟩, ?_⟩
       exact by (
       refine WD.alloc (v := .agg #[sn, sn]) (cs := #[sn, sn]) 4 (w_none rfl) HS rfl (by kernel_rfl) rfl (fun b53 w54 hb53 HS => ?_)
       refine ⟨⟨HS.nowO, HS.nowN.2.2, ⟨(HS.mu 6 rfl), (HS.mu 7 rfl), (HS.mu 8 rfl), (HS.mu 9 rfl), (HS.mu 10 rfl), trivial⟩⟩, ?_⟩
       obtain ⟨A56, c57, rfl⟩ := row_slice (HS.mu 5 rfl)
       obtain ⟨A58, c59, rfl⟩ := row_slice (HS.mu 3 rfl)
       refine WD.storeS 6 HS 0 rfl rfl rfl rfl (oneL rfl) (by kernel_rfl) (ble_ rfl) (cs' := #[(.slice A56 t21.f0.length c57), (.slice A58 t21.f1.length c59)]) (by kernel_rfl) (fun w55 HS => ?_)
       dsimp only [List.set] at HS
       refine ⟨⟨HS.nowO, HS.nowN.2.2, ⟨(HS.mu 6 rfl), (HS.mu 7 rfl), (HS.mu 8 rfl), (HS.mu 9 rfl), (HS.mu 10 rfl), trivial⟩⟩, ?_⟩
       obtain ⟨A61, c62, rfl⟩ := row_slice (HS.mu 2 rfl)
       exact by (
       refine WD.storeSL 7 HS 1 rfl rfl rfl rfl (oneL rfl) (by kernel_rfl) (ble_ rfl) (cs' := #[(.slice A61 t32.f0.length c62), vi t32.f1]) (by kernel_rfl) (fun w60 HS => ?_)
       dsimp only [List.set] at HS
       exact dd_ (wv_ iq X20 ⟨b53, b51, A56, t21, c57, A58, c59, A61, t32, c62, I37, I30, bl31, I28, rfl, H, (St.front (St.front (St.front (St.front (St.front (St.front (St.front (St.front (St.front (St.front (St.front HS 10 rfl) 10 rfl) 10 rfl) 10 rfl) 10 rfl) 10 rfl) 10 rfl) 10 rfl) 10 rfl) 9 rfl) 10 rfl)⟩) )))
   · have HT_ := True.intro
     refine WDo.alloc (v := .agg #[sn, sn]) (cs := #[sn, sn]) 4 (w_none rfl) HS rfl (by kernel_rfl) rfl (fun b63 w64 hb63 HS => ?_)
     refine ⟨⟨HS.nowO, HS.nowN.2, ⟨(HS.mu 4 rfl), (HS.mu 5 rfl), (HS.mu 6 rfl), (HS.mu 7 rfl), (HS.mu 8 rfl), trivial⟩⟩, ?_⟩
     refine two__ 3 5 ?_ ?_
     · have HT_ := True.intro
       exact by (
       obtain ⟨t65, ha66, H⟩ := bind_some H
       refine dco_ 3 (w_none rfl) func106 (impl_cloneTable.runs k (⟨x1.f0, x1.f1⟩ : S67) A1_0 c1_0 t65 _ (HS.getO 2 rfl) hc1_0 ha66) ?_
       clear ha66
       rintro _ w67 ⟨v68, bl69, rfl, hO_, hb⟩
       replace HS := HS.got hb hO_
       dsimp only [List.cons_append, List.nil_append] at HS
       clear hO_
       obtain ⟨I70, bl71, HS⟩ := HS.unseal (sz := 1) rfl
       exact by (
       replace HS := HS.freezeN 1 (p := (rF kI t65.f0 I70)) rfl (fun _ hP_ _ => RepsB.reps hP_)
       dsimp only [List.eraseIdx] at HS
       refine ⟨⟨HS.nowO, HS.nowN.2.2, ⟨(HS.mu 5 rfl), (HS.mu 6 rfl), (HS.mu 7 rfl), (HS.mu 8 rfl), (HS.mu 9 rfl), trivial⟩⟩, _, rfl, ?_⟩
       clear hb
       refine WD.alloc (v := .agg #[sn, vi 0]) (cs := #[sn, vi 0]) 5 (w_none rfl) HS rfl (by kernel_rfl) rfl (fun b72 w73 hb72 HS => ?_)
       refine ⟨⟨HS.nowO, HS.nowN.2.2, ⟨(HS.mu 6 rfl), (HS.mu 7 rfl), (HS.mu 8 rfl), (HS.mu 9 rfl), (HS.mu 10 rfl), trivial⟩⟩, ?_⟩
       obtain ⟨A75, c76, rfl⟩ := row_slice (HS.mu 5 rfl)
       obtain ⟨A77, c78, rfl⟩ := row_slice (HS.mu 3 rfl)
       exact by (
       refine WD.storeS 6 HS 2 rfl rfl rfl rfl (oneL rfl) (by kernel_rfl) (ble_ rfl) (cs' := #[(.slice A75 t21.f0.length c76), (.slice A77 t21.f1.length c78)]) (by kernel_rfl) (fun w74 HS => ?_)
       dsimp only [List.set] at HS
       refine ⟨⟨HS.nowO, HS.nowN.2.2, ⟨(HS.mu 6 rfl), (HS.mu 7 rfl), (HS.mu 8 rfl), (HS.mu 9 rfl), (HS.mu 10 rfl), trivial⟩⟩, ?_⟩
       obtain ⟨A80, c81, rfl⟩ := row_slice (HS.mu 1 rfl)
       refine WD.storeSL 7 HS 0 rfl rfl rfl rfl (oneL rfl) (by kernel_rfl) (ble_ rfl) (cs' := #[(.slice A80 t65.f0.length c81), vi t65.f1]) (by kernel_rfl) (fun w79 HS => ?_)
       dsimp only [List.set] at HS
       exact dd_ (wv_ iq X20 ⟨b63, b72, A75, t21, c76, A77, c78, A80, t65, c81, I70, I30, bl31, I28, rfl, H, (St.front (St.front (St.front (St.front (St.front (St.front (St.front (St.front (St.front (St.front (St.front HS 10 rfl) 10 rfl) 10 rfl) 10 rfl) 10 rfl) 10 rfl) 10 rfl) 10 rfl) 9 rfl) 10 rfl) 10 rfl)⟩) )))
     · have HT_ := True.intro
       exact by (
       refine WDo.alloc (v := .agg #[sn, vi 0]) (cs := #[sn, vi 0]) 5 (w_none rfl) HS rfl (by kernel_rfl) rfl (fun b82 w83 hb82 HS => ?_)
       refine ⟨⟨HS.nowO, HS.nowN.2, ⟨(HS.mu 5 rfl), (HS.mu 6 rfl), (HS.mu 7 rfl), (HS.mu 8 rfl), (HS.mu 9 rfl), trivial⟩⟩, ?_⟩
       obtain ⟨t84, ha85, H⟩ := bind_some H
       refine dc_ 3 (w_none rfl) func106 (impl_cloneTable.runs k (⟨x1.f0, x1.f1⟩ : S67) A1_0 c1_0 t84 _ (HS.getO 2 rfl) hc1_0 ha85) ?_
       clear ha85
       rintro _ w86 ⟨v87, bl88, rfl, hO_, hb⟩
       replace HS := HS.got hb hO_
       dsimp only [List.cons_append, List.nil_append] at HS
       exact by (
       clear hO_
       obtain ⟨I89, bl90, HS⟩ := HS.unseal (sz := 1) rfl
       replace HS := HS.freezeN 1 (p := (rF kI t84.f0 I89)) rfl (fun _ hP_ _ => RepsB.reps hP_)
       dsimp only [List.eraseIdx] at HS
       refine ⟨⟨HS.nowO, HS.nowN.2.2, ⟨(HS.mu 6 rfl), (HS.mu 7 rfl), (HS.mu 8 rfl), (HS.mu 9 rfl), (HS.mu 10 rfl), trivial⟩⟩, _, rfl, ?_⟩
       clear hb
       obtain ⟨A92, c93, rfl⟩ := row_slice (HS.mu 5 rfl)
       obtain ⟨A94, c95, rfl⟩ := row_slice (HS.mu 3 rfl)
       exact by (
       refine WD.storeS 6 HS 2 rfl rfl rfl rfl (oneL rfl) (by kernel_rfl) (ble_ rfl) (cs' := #[(.slice A92 t21.f0.length c93), (.slice A94 t21.f1.length c95)]) (by kernel_rfl) (fun w91 HS => ?_)
       dsimp only [List.set] at HS
       refine ⟨⟨HS.nowO, HS.nowN.2.2, ⟨(HS.mu 6 rfl), (HS.mu 7 rfl), (HS.mu 8 rfl), (HS.mu 9 rfl), (HS.mu 10 rfl), trivial⟩⟩, ?_⟩
       obtain ⟨A97, c98, rfl⟩ := row_slice (HS.mu 0 rfl)
       refine WD.storeSL 7 HS 1 rfl rfl rfl rfl (oneL rfl) (by kernel_rfl) (ble_ rfl) (cs' := #[(.slice A97 t84.f0.length c98), vi t84.f1]) (by kernel_rfl) (fun w96 HS => ?_)
       dsimp only [List.set] at HS
       exact dd_ (wv_ iq X20 ⟨b63, b82, A92, t21, c93, A94, c95, A97, t84, c98, I89, I30, bl31, I28, rfl, H, (St.front (St.front (St.front (St.front (St.front (St.front (St.front (St.front (St.front (St.front (St.front HS 10 rfl) 10 rfl) 10 rfl) 10 rfl) 10 rfl) 10 rfl) 10 rfl) 10 rfl) 8 rfl) 10 rfl) 10 rfl)⟩) )))
   · have HT_ := True.intro
     exact by (
     refine WDo.alloc (v := .agg #[sn, vi 0]) (cs := #[sn, vi 0]) 5 (w_none rfl) HS rfl (by kernel_rfl) rfl (fun b99 w100 hb99 HS => ?_)
     refine ⟨⟨HS.nowO, HS.nowN.2, ⟨(HS.mu 4 rfl), (HS.mu 5 rfl), (HS.mu 6 rfl), (HS.mu 7 rfl), (HS.mu 8 rfl), trivial⟩⟩, ?_⟩
     refine two__ 3 4 ?_ ?_
     · have HT_ := True.intro
       obtain ⟨t101, ha102, H⟩ := bind_some H
       refine dco_ 3 (w_none rfl) func106 (impl_cloneTable.runs k (⟨x1.f0, x1.f1⟩ : S67) A1_0 c1_0 t101 _ (HS.getO 2 rfl) hc1_0 ha102) ?_
       clear ha102
       rintro _ w103 ⟨v104, bl105, rfl, hO_, hb⟩
       exact by (
       replace HS := HS.got hb hO_
       dsimp only [List.cons_append, List.nil_append] at HS
       clear hO_
       obtain ⟨I106, bl107, HS⟩ := HS.unseal (sz := 1) rfl
       replace HS := HS.freezeN 1 (p := (rF kI t101.f0 I106)) rfl (fun _ hP_ _ => RepsB.reps hP_)
       dsimp only [List.eraseIdx] at HS
       refine ⟨⟨HS.nowO, HS.nowN.2.2, ⟨(HS.mu 5 rfl), (HS.mu 6 rfl), (HS.mu 7 rfl), (HS.mu 8 rfl), (HS.mu 9 rfl), trivial⟩⟩, _, rfl, ?_⟩
       clear hb
       exact by (
       refine WD.alloc (v := .agg #[sn, sn]) (cs := #[sn, sn]) 4 (w_none rfl) HS rfl (by kernel_rfl) rfl (fun b108 w109 hb108 HS => ?_)
       refine ⟨⟨HS.nowO, HS.nowN.2.2, ⟨(HS.mu 6 rfl), (HS.mu 7 rfl), (HS.mu 8 rfl), (HS.mu 9 rfl), (HS.mu 10 rfl), trivial⟩⟩, ?_⟩
       obtain ⟨A111, c112, rfl⟩ := row_slice (HS.mu 5 rfl)
       obtain ⟨A113, c114, rfl⟩ := row_slice (HS.mu 3 rfl)
       refine WD.storeS 6 HS 0 rfl rfl rfl rfl (oneL rfl) (by kernel_rfl) (ble_ rfl) (cs' := #[(.slice A111 t21.f0.length c112), (.slice A113 t21.f1.length c114)]) (by kernel_rfl) (fun w110 HS => ?_)
       dsimp only [List.set] at HS
       refine ⟨⟨HS.nowO, HS.nowN.2.2, ⟨(HS.mu 6 rfl), (HS.mu 7 rfl), (HS.mu 8 rfl), (HS.mu 9 rfl), (HS.mu 10 rfl), trivial⟩⟩, ?_⟩
       obtain ⟨A116, c117, rfl⟩ := row_slice (HS.mu 1 rfl)
       exact by (
       refine WD.storeSL 7 HS 2 rfl rfl rfl rfl (oneL rfl) (by kernel_rfl) (ble_ rfl) (cs' := #[(.slice A116 t101.f0.length c117), vi t101.f1]) (by kernel_rfl) (fun w115 HS => ?_)
       dsimp only [List.set] at HS
       exact dd_ (wv_ iq X20 ⟨b108, b99, A111, t21, c112, A113, c114, A116, t101, c117, I106, I30, bl31, I28, rfl, H, (St.front (St.front (St.front (St.front (St.front (St.front (St.front (St.front (St.front (St.front (St.front HS 10 rfl) 10 rfl) 10 rfl) 10 rfl) 10 rfl) 10 rfl) 10 rfl) 10 rfl) 9 rfl) 9 rfl) 10 rfl)⟩) )))
     · have HT_ := True.intro
       refine WDo.alloc (v := .agg #[sn, sn]) (cs := #[sn, sn]) 4 (w_none rfl) HS rfl (by kernel_rfl) rfl (fun b118 w119 hb118 HS => ?_)
       refine ⟨⟨HS.nowO, HS.nowN.2, ⟨(HS.mu 5 rfl), (HS.mu 6 rfl), (HS.mu 7 rfl), (HS.mu 8 rfl), (HS.mu 9 rfl), trivial⟩⟩, ?_⟩
       obtain ⟨t120, ha121, H⟩ := bind_some H
       refine dc_ 3 (w_none rfl) func106 (impl_cloneTable.runs k (⟨x1.f0, x1.f1⟩ : S67) A1_0 c1_0 t120 _ (HS.getO 2 rfl) hc1_0 ha121) ?_
       exact by (
       clear ha121
       rintro _ w122 ⟨v123, bl124, rfl, hO_, hb⟩
       replace HS := HS.got hb hO_
       dsimp only [List.cons_append, List.nil_append] at HS
       clear hO_
       obtain ⟨I125, bl126, HS⟩ := HS.unseal (sz := 1) rfl
       replace HS := HS.freezeN 1 (p := (rF kI t120.f0 I125)) rfl (fun _ hP_ _ => RepsB.reps hP_)
       dsimp only [List.eraseIdx] at HS
       exact by (
       refine ⟨⟨HS.nowO, HS.nowN.2.2, ⟨(HS.mu 6 rfl), (HS.mu 7 rfl), (HS.mu 8 rfl), (HS.mu 9 rfl), (HS.mu 10 rfl), trivial⟩⟩, _, rfl, ?_⟩
       clear hb
       obtain ⟨A128, c129, rfl⟩ := row_slice (HS.mu 5 rfl)
       obtain ⟨A130, c131, rfl⟩ := row_slice (HS.mu 3 rfl)
       refine WD.storeS 6 HS 1 rfl rfl rfl rfl (oneL rfl) (by kernel_rfl) (ble_ rfl) (cs' := #[(.slice A128 t21.f0.length c129), (.slice A130 t21.f1.length c131)]) (by kernel_rfl) (fun w127 HS => ?_)
       dsimp only [List.set] at HS
       refine ⟨⟨HS.nowO, HS.nowN.2.2, ⟨(HS.mu 6 rfl), (HS.mu 7 rfl), (HS.mu 8 rfl), (HS.mu 9 rfl), (HS.mu 10 rfl), trivial⟩⟩, ?_⟩
       obtain ⟨A133, c134, rfl⟩ := row_slice (HS.mu 0 rfl)
       exact by (
       refine WD.storeSL 7 HS 2 rfl rfl rfl rfl (oneL rfl) (by kernel_rfl) (ble_ rfl) (cs' := #[(.slice A133 t120.f0.length c134), vi t120.f1]) (by kernel_rfl) (fun w132 HS => ?_)
       dsimp only [List.set] at HS
       exact dd_ (wv_ iq X20 ⟨b118, b99, A128, t21, c129, A130, c131, A133, t120, c134, I125, I30, bl31, I28, rfl, H, (St.front (St.front (St.front (St.front (St.front (St.front (St.front (St.front (St.front (St.front (St.front HS 10 rfl) 10 rfl) 10 rfl) 10 rfl) 10 rfl) 10 rfl) 10 rfl) 10 rfl) 8 rfl) 9 rfl) 10 rfl)⟩) ))))))
 · have HT_ := True.intro
   refine WDo.alloc (v := .agg #[sn, sn]) (cs := #[sn, sn]) 4 (w_none rfl) HS rfl (by kernel_rfl) rfl (fun b135 w136 hb135 HS => ?_)
   refine ⟨⟨HS.nowO, HS.nowN, ⟨(HS.mu 1 rfl), (HS.mu 2 rfl), (HS.mu 3 rfl), (HS.mu 4 rfl), (HS.mu 5 rfl), trivial⟩⟩, ?_⟩
   refine two__ 1 5 ?_ ?_
   · have HT_ := True.intro
     exact by (
     obtain ⟨t137, ha138, H⟩ := bind_some H
     refine dco_ 1 (w_none rfl) func105 (impl_cloneStore.runs k (⟨x0.f0, x0.f1⟩ : S58) A0_0 c0_0 A0_1 c0_1 t137 _ (HS.getO 0 rfl) hc0_0 (HS.getO 1 rfl) hc0_1 ha138) ?_
     clear ha138
     rintro _ w139 ⟨v140, bl141, v142, bl143, rfl, hO_, hb⟩
     replace HS := HS.got hb hO_
     dsimp only [List.cons_append, List.nil_append] at HS
     clear hO_
     obtain ⟨I144, bl145, HS⟩ := HS.unseal (sz := 1) rfl
     exact by (
     replace HS := HS.freezeN 1 (p := (rF kI t137.f0 I144)) rfl (fun _ hP_ _ => RepsB.reps hP_)
     dsimp only [List.eraseIdx] at HS
     replace HS := HS.front 1 rfl
     dsimp only [List.eraseIdx] at HS
     obtain ⟨I146, bl147, HS⟩ := HS.unseal (sz := 1) rfl
     refine ⟨⟨HS.nowO, HS.nowN.2, ⟨(HS.mu 4 rfl), (HS.mu 5 rfl), (HS.mu 6 rfl), (HS.mu 7 rfl), (HS.mu 8 rfl), trivial⟩⟩, _, rfl, ?_⟩
     clear hb
     refine two__ 3 5 ?_ ?_
     · have HT_ := True.intro
       exact by (
       obtain ⟨t148, ha149, H⟩ := bind_some H
       refine dco_ 3 (w_none rfl) func106 (impl_cloneTable.runs k (⟨x1.f0, x1.f1⟩ : S67) A1_0 c1_0 t148 _ (HS.getO 2 rfl) hc1_0 ha149) ?_
       clear ha149
       rintro _ w150 ⟨v151, bl152, rfl, hO_, hb⟩
       replace HS := HS.got hb hO_
       dsimp only [List.cons_append, List.nil_append] at HS
       clear hO_
       obtain ⟨I153, bl154, HS⟩ := HS.unseal (sz := 1) rfl
       exact by (
       replace HS := HS.freezeN 1 (p := (rF kI t148.f0 I153)) rfl (fun _ hP_ _ => RepsB.reps hP_)
       dsimp only [List.eraseIdx] at HS
       refine ⟨⟨HS.nowO, HS.nowN.2.2, ⟨(HS.mu 5 rfl), (HS.mu 6 rfl), (HS.mu 7 rfl), (HS.mu 8 rfl), (HS.mu 9 rfl), trivial⟩⟩, _, rfl, ?_⟩
       clear hb
       refine WD.alloc (v := .agg #[sn, vi 0]) (cs := #[sn, vi 0]) 5 (w_none rfl) HS rfl (by kernel_rfl) rfl (fun b155 w156 hb155 HS => ?_)
       refine ⟨⟨HS.nowO, HS.nowN.2.2, ⟨(HS.mu 6 rfl), (HS.mu 7 rfl), (HS.mu 8 rfl), (HS.mu 9 rfl), (HS.mu 10 rfl), trivial⟩⟩, ?_⟩
       obtain ⟨A158, c159, rfl⟩ := row_slice (HS.mu 4 rfl)
       obtain ⟨A160, c161, rfl⟩ := row_slice (HS.mu 2 rfl)
       exact by (
       refine WD.storeS 6 HS 5 rfl rfl rfl rfl (oneL rfl) (by kernel_rfl) (ble_ rfl) (cs' := #[(.slice A158 t137.f0.length c159), (.slice A160 t137.f1.length c161)]) (by kernel_rfl) (fun w157 HS => ?_)
       dsimp only [List.set] at HS
       refine ⟨⟨HS.nowO, HS.nowN.2.2, ⟨(HS.mu 6 rfl), (HS.mu 7 rfl), (HS.mu 8 rfl), (HS.mu 9 rfl), (HS.mu 10 rfl), trivial⟩⟩, ?_⟩
       obtain ⟨A163, c164, rfl⟩ := row_slice (HS.mu 1 rfl)
       refine WD.storeSL 7 HS 0 rfl rfl rfl rfl (oneL rfl) (by kernel_rfl) (ble_ rfl) (cs' := #[(.slice A163 t148.f0.length c164), vi t148.f1]) (by kernel_rfl) (fun w162 HS => ?_)
       dsimp only [List.set] at HS
       exact dd_ (wv_ iq X20 ⟨b135, b155, A158, t137, c159, A160, c161, A163, t148, c164, I153, I146, bl147, I144, rfl, H, (St.front (St.front (St.front (St.front (St.front (St.front (St.front (St.front (St.front (St.front (St.front HS 10 rfl) 10 rfl) 10 rfl) 10 rfl) 10 rfl) 9 rfl) 9 rfl) 9 rfl) 9 rfl) 10 rfl) 10 rfl)⟩) )))
     · have HT_ := True.intro
       exact by (
       refine WDo.alloc (v := .agg #[sn, vi 0]) (cs := #[sn, vi 0]) 5 (w_none rfl) HS rfl (by kernel_rfl) rfl (fun b165 w166 hb165 HS => ?_)
       refine ⟨⟨HS.nowO, HS.nowN.2, ⟨(HS.mu 5 rfl), (HS.mu 6 rfl), (HS.mu 7 rfl), (HS.mu 8 rfl), (HS.mu 9 rfl), trivial⟩⟩, ?_⟩
       obtain ⟨t167, ha168, H⟩ := bind_some H
       refine dc_ 3 (w_none rfl) func106 (impl_cloneTable.runs k (⟨x1.f0, x1.f1⟩ : S67) A1_0 c1_0 t167 _ (HS.getO 2 rfl) hc1_0 ha168) ?_
       clear ha168
       rintro _ w169 ⟨v170, bl171, rfl, hO_, hb⟩
       replace HS := HS.got hb hO_
       dsimp only [List.cons_append, List.nil_append] at HS
       exact by (
       clear hO_
       obtain ⟨I172, bl173, HS⟩ := HS.unseal (sz := 1) rfl
       replace HS := HS.freezeN 1 (p := (rF kI t167.f0 I172)) rfl (fun _ hP_ _ => RepsB.reps hP_)
       dsimp only [List.eraseIdx] at HS
       refine ⟨⟨HS.nowO, HS.nowN.2.2, ⟨(HS.mu 6 rfl), (HS.mu 7 rfl), (HS.mu 8 rfl), (HS.mu 9 rfl), (HS.mu 10 rfl), trivial⟩⟩, _, rfl, ?_⟩
       clear hb
       obtain ⟨A175, c176, rfl⟩ := row_slice (HS.mu 4 rfl)
       obtain ⟨A177, c178, rfl⟩ := row_slice (HS.mu 2 rfl)
       exact by (
       refine WD.storeS 6 HS 5 rfl rfl rfl rfl (oneL rfl) (by kernel_rfl) (ble_ rfl) (cs' := #[(.slice A175 t137.f0.length c176), (.slice A177 t137.f1.length c178)]) (by kernel_rfl) (fun w174 HS => ?_)
       dsimp only [List.set] at HS
       refine ⟨⟨HS.nowO, HS.nowN.2.2, ⟨(HS.mu 6 rfl), (HS.mu 7 rfl), (HS.mu 8 rfl), (HS.mu 9 rfl), (HS.mu 10 rfl), trivial⟩⟩, ?_⟩
       obtain ⟨A180, c181, rfl⟩ := row_slice (HS.mu 0 rfl)
       refine WD.storeSL 7 HS 1 rfl rfl rfl rfl (oneL rfl) (by kernel_rfl) (ble_ rfl) (cs' := #[(.slice A180 t167.f0.length c181), vi t167.f1]) (by kernel_rfl) (fun w179 HS => ?_)
       dsimp only [List.set] at HS
       exact dd_ (wv_ iq X20 ⟨b135, b165, A175, t137, c176, A177, c178, A180, t167, c181, I172, I146, bl147, I144, rfl, H, (St.front (St.front (St.front (St.front (St.front (St.front (St.front (St.front (St.front (St.front (St.front HS 10 rfl) 10 rfl) 10 rfl) 10 rfl) 10 rfl) 9 rfl) 9 rfl) 9 rfl) 8 rfl) 10 rfl) 10 rfl)⟩) )))))
   · have HT_ := True.intro
     exact by (
     refine WDo.alloc (v := .agg #[sn, vi 0]) (cs := #[sn, vi 0]) 5 (w_none rfl) HS rfl (by kernel_rfl) rfl (fun b182 w183 hb182 HS => ?_)
     refine ⟨⟨HS.nowO, HS.nowN, ⟨(HS.mu 2 rfl), (HS.mu 3 rfl), (HS.mu 4 rfl), (HS.mu 5 rfl), (HS.mu 6 rfl), trivial⟩⟩, ?_⟩
     obtain ⟨t184, ha185, H⟩ := bind_some H
     refine dc_ 1 (w_none rfl) func105 (impl_cloneStore.runs k (⟨x0.f0, x0.f1⟩ : S58) A0_0 c0_0 A0_1 c0_1 t184 _ (HS.getO 0 rfl) hc0_0 (HS.getO 1 rfl) hc0_1 ha185) ?_
     clear ha185
     rintro _ w186 ⟨v187, bl188, v189, bl190, rfl, hO_, hb⟩
     replace HS := HS.got hb hO_
     dsimp only [List.cons_append, List.nil_append] at HS
     exact by (
     clear hO_
     obtain ⟨I191, bl192, HS⟩ := HS.unseal (sz := 1) rfl
     replace HS := HS.freezeN 1 (p := (rF kI t184.f0 I191)) rfl (fun _ hP_ _ => RepsB.reps hP_)
     dsimp only [List.eraseIdx] at HS
     replace HS := HS.front 1 rfl
     dsimp only [List.eraseIdx] at HS
     obtain ⟨I193, bl194, HS⟩ := HS.unseal (sz := 1) rfl
     refine ⟨⟨HS.nowO, HS.nowN.2, ⟨(HS.mu 5 rfl), (HS.mu 6 rfl), (HS.mu 7 rfl), (HS.mu 8 rfl), (HS.mu 9 rfl), trivial⟩⟩, _, rfl, ?_⟩
     exact by (
     clear hb
     obtain ⟨t195, ha196, H⟩ := bind_some H
     refine dc_ 3 (w_none rfl) func106 (impl_cloneTable.runs k (⟨x1.f0, x1.f1⟩ : S67) A1_0 c1_0 t195 _ (HS.getO 2 rfl) hc1_0 ha196) ?_
     clear ha196
     rintro _ w197 ⟨v198, bl199, rfl, hO_, hb⟩
     replace HS := HS.got hb hO_
     dsimp only [List.cons_append, List.nil_append] at HS
     clear hO_
     exact by (
     obtain ⟨I200, bl201, HS⟩ := HS.unseal (sz := 1) rfl
     replace HS := HS.freezeN 1 (p := (rF kI t195.f0 I200)) rfl (fun _ hP_ _ => RepsB.reps hP_)
     dsimp only [List.eraseIdx] at HS
     refine ⟨⟨HS.nowO, HS.nowN.2.2, ⟨(HS.mu 6 rfl), (HS.mu 7 rfl), (HS.mu 8 rfl), (HS.mu 9 rfl), (HS.mu 10 rfl), trivial⟩⟩, _, rfl, ?_⟩
     clear hb
     obtain ⟨A203, c204, rfl⟩ := row_slice (HS.mu 3 rfl)
     obtain ⟨A205, c206, rfl⟩ := row_slice (HS.mu 1 rfl)
     refine WD.storeS 6 HS 5 rfl rfl rfl rfl (oneL rfl) (by kernel_rfl) (ble_ rfl) (cs' := #[(.slice A203 t184.f0.length c204), (.slice A205 t184.f1.length c206)]) (by kernel_rfl) (fun w202 HS => ?_)
     exact by (
     dsimp only [List.set] at HS
     refine ⟨⟨HS.nowO, HS.nowN.2.2, ⟨(HS.mu 6 rfl), (HS.mu 7 rfl), (HS.mu 8 rfl), (HS.mu 9 rfl), (HS.mu 10 rfl), trivial⟩⟩, ?_⟩
     obtain ⟨A208, c209, rfl⟩ := row_slice (HS.mu 0 rfl)
     refine WD.storeSL 7 HS 4 rfl rfl rfl rfl (oneL rfl) (by kernel_rfl) (ble_ rfl) (cs' := #[(.slice A208 t195.f0.length c209), vi t195.f1]) (by kernel_rfl) (fun w207 HS => ?_)
     dsimp only [List.set] at HS
     exact dd_ (wv_ iq X20 ⟨b135, b182, A203, t184, c204, A205, c206, A208, t195, c209, I200, I193, bl194, I191, rfl, H, (St.front (St.front (St.front (St.front (St.front (St.front (St.front (St.front (St.front (St.front (St.front HS 10 rfl) 10 rfl) 10 rfl) 10 rfl) 10 rfl) 8 rfl) 8 rfl) 8 rfl) 8 rfl) 10 rfl) 10 rfl)⟩) )))))
 · have HT_ := True.intro
   refine WDo.alloc (v := .agg #[sn, vi 0]) (cs := #[sn, vi 0]) 5 (w_none rfl) HS rfl (by kernel_rfl) rfl (fun b210 w211 hb210 HS => ?_)
   exact by (
   refine ⟨⟨HS.nowO, HS.nowN, ⟨(HS.mu 1 rfl), (HS.mu 2 rfl), (HS.mu 3 rfl), (HS.mu 4 rfl), (HS.mu 5 rfl), trivial⟩⟩, ?_⟩
   refine two__ 1 4 ?_ ?_
   · have HT_ := True.intro
     obtain ⟨t212, ha213, H⟩ := bind_some H
     refine dco_ 1 (w_none rfl) func105 (impl_cloneStore.runs k (⟨x0.f0, x0.f1⟩ : S58) A0_0 c0_0 A0_1 c0_1 t212 _ (HS.getO 0 rfl) hc0_0 (HS.getO 1 rfl) hc0_1 ha213) ?_
     clear ha213
     rintro _ w214 ⟨v215, bl216, v217, bl218, rfl, hO_, hb⟩
     replace HS := HS.got hb hO_
     exact by (
     dsimp only [List.cons_append, List.nil_append] at HS
     clear hO_
     obtain ⟨I219, bl220, HS⟩ := HS.unseal (sz := 1) rfl
     replace HS := HS.freezeN 1 (p := (rF kI t212.f0 I219)) rfl (fun _ hP_ _ => RepsB.reps hP_)
     dsimp only [List.eraseIdx] at HS
     replace HS := HS.front 1 rfl
     dsimp only [List.eraseIdx] at HS
     obtain ⟨I221, bl222, HS⟩ := HS.unseal (sz := 1) rfl
     exact by (
     refine ⟨⟨HS.nowO, HS.nowN.2, ⟨(HS.mu 4 rfl), (HS.mu 5 rfl), (HS.mu 6 rfl), (HS.mu 7 rfl), (HS.mu 8 rfl), trivial⟩⟩, _, rfl, ?_⟩
     clear hb
     refine two__ 3 4 ?_ ?_
     · have HT_ := True.intro
       obtain ⟨t223, ha224, H⟩ := bind_some H
       refine dco_ 3 (w_none rfl) func106 (impl_cloneTable.runs k (⟨x1.f0, x1.f1⟩ : S67) A1_0 c1_0 t223 _ (HS.getO 2 rfl) hc1_0 ha224) ?_
       clear ha224
       rintro _ w225 ⟨v226, bl227, rfl, hO_, hb⟩
       exact by (
       replace HS := HS.got hb hO_
       dsimp only [List.cons_append, List.nil_append] at HS
       clear hO_
       obtain ⟨I228, bl229, HS⟩ := HS.unseal (sz := 1) rfl
       replace HS := HS.freezeN 1 (p := (rF kI t223.f0 I228)) rfl (fun _ hP_ _ => RepsB.reps hP_)
       dsimp only [List.eraseIdx] at HS
       refine ⟨⟨HS.nowO, HS.nowN.2.2, ⟨(HS.mu 5 rfl), (HS.mu 6 rfl), (HS.mu 7 rfl), (HS.mu 8 rfl), (HS.mu 9 rfl), trivial⟩⟩, _, rfl, ?_⟩
       clear hb
       exact by (
       refine WD.alloc (v := .agg #[sn, sn]) (cs := #[sn, sn]) 4 (w_none rfl) HS rfl (by kernel_rfl) rfl (fun b230 w231 hb230 HS => ?_)
       refine ⟨⟨HS.nowO, HS.nowN.2.2, ⟨(HS.mu 6 rfl), (HS.mu 7 rfl), (HS.mu 8 rfl), (HS.mu 9 rfl), (HS.mu 10 rfl), trivial⟩⟩, ?_⟩
       obtain ⟨A233, c234, rfl⟩ := row_slice (HS.mu 4 rfl)
       obtain ⟨A235, c236, rfl⟩ := row_slice (HS.mu 2 rfl)
       refine WD.storeS 6 HS 0 rfl rfl rfl rfl (oneL rfl) (by kernel_rfl) (ble_ rfl) (cs' := #[(.slice A233 t212.f0.length c234), (.slice A235 t212.f1.length c236)]) (by kernel_rfl) (fun w232 HS => ?_)
       dsimp only [List.set] at HS
       refine ⟨⟨HS.nowO, HS.nowN.2.2, ⟨(HS.mu 6 rfl), (HS.mu 7 rfl), (HS.mu 8 rfl), (HS.mu 9 rfl), (HS.mu 10 rfl), trivial⟩⟩, ?_⟩
       obtain ⟨A238, c239, rfl⟩ := row_slice (HS.mu 1 rfl)
       exact by (
       refine WD.storeSL 7 HS 5 rfl rfl rfl rfl (oneL rfl) (by kernel_rfl) (ble_ rfl) (cs' := #[(.slice A238 t223.f0.length c239), vi t223.f1]) (by kernel_rfl) (fun w237 HS => ?_)
       dsimp only [List.set] at HS
       exact dd_ (wv_ iq X20 ⟨b230, b210, A233, t212, c234, A235, c236, A238, t223, c239, I228, I221, bl222, I219, rfl, H, (St.front (St.front (St.front (St.front (St.front (St.front (St.front (St.front (St.front (St.front (St.front HS 10 rfl) 10 rfl) 10 rfl) 10 rfl) 10 rfl) 9 rfl) 9 rfl) 9 rfl) 9 rfl) 9 rfl) 10 rfl)⟩) )))
     · have HT_ := True.intro
       refine WDo.alloc (v := .agg #[sn, sn]) (cs := #[sn, sn]) 4 (w_none rfl) HS rfl (by kernel_rfl) rfl (fun b240 w241 hb240 HS => ?_)
       refine ⟨⟨HS.nowO, HS.nowN.2, ⟨(HS.mu 5 rfl), (HS.mu 6 rfl), (HS.mu 7 rfl), (HS.mu 8 rfl), (HS.mu 9 rfl), trivial⟩⟩, ?_⟩
       obtain ⟨t242, ha243, H⟩ := bind_some H
       refine dc_ 3 (w_none rfl) func106 (impl_cloneTable.runs k (⟨x1.f0, x1.f1⟩ : S67) A1_0 c1_0 t242 _ (HS.getO 2 rfl) hc1_0 ha243) ?_
       exact by (
       clear ha243
       rintro _ w244 ⟨v245, bl246, rfl, hO_, hb⟩
       replace HS := HS.got hb hO_
       dsimp only [List.cons_append, List.nil_append] at HS
       clear hO_
       obtain ⟨I247, bl248, HS⟩ := HS.unseal (sz := 1) rfl
       replace HS := HS.freezeN 1 (p := (rF kI t242.f0 I247)) rfl (fun _ hP_ _ => RepsB.reps hP_)
       dsimp only [List.eraseIdx] at HS
       exact by (
       refine ⟨⟨HS.nowO, HS.nowN.2.2, ⟨(HS.mu 6 rfl), (HS.mu 7 rfl), (HS.mu 8 rfl), (HS.mu 9 rfl), (HS.mu 10 rfl), trivial⟩⟩, _, rfl, ?_⟩
       clear hb
       obtain ⟨A250, c251, rfl⟩ := row_slice (HS.mu 4 rfl)
       obtain ⟨A252, c253, rfl⟩ := row_slice (HS.mu 2 rfl)
       refine WD.storeS 6 HS 1 rfl rfl rfl rfl (oneL rfl) (by kernel_rfl) (ble_ rfl) (cs' := #[(.slice A250 t212.f0.length c251), (.slice A252 t212.f1.length c253)]) (by kernel_rfl) (fun w249 HS => ?_)
       dsimp only [List.set] at HS
       refine ⟨⟨HS.nowO, HS.nowN.2.2, ⟨(HS.mu 6 rfl), (HS.mu 7 rfl), (HS.mu 8 rfl), (HS.mu 9 rfl), (HS.mu 10 rfl), trivial⟩⟩, ?_⟩
       obtain ⟨A255, c256, rfl⟩ := row_slice (HS.mu 0 rfl)
       exact by (
       refine WD.storeSL 7 HS 5 rfl rfl rfl rfl (oneL rfl) (by kernel_rfl) (ble_ rfl) (cs' := #[(.slice A255 t242.f0.length c256), vi t242.f1]) (by kernel_rfl) (fun w254 HS => ?_)
       dsimp only [List.set] at HS
       exact dd_ (wv_ iq X20 ⟨b240, b210, A250, t212, c251, A252, c253, A255, t242, c256, I247, I221, bl222, I219, rfl, H, (St.front (St.front (St.front (St.front (St.front (St.front (St.front (St.front (St.front (St.front (St.front HS 10 rfl) 10 rfl) 10 rfl) 10 rfl) 10 rfl) 9 rfl) 9 rfl) 9 rfl) 8 rfl) 9 rfl) 10 rfl)⟩) )))))
   · have HT_ := True.intro
     refine WDo.alloc (v := .agg #[sn, sn]) (cs := #[sn, sn]) 4 (w_none rfl) HS rfl (by kernel_rfl) rfl (fun b257 w258 hb257 HS => ?_)
     refine ⟨⟨HS.nowO, HS.nowN, ⟨(HS.mu 2 rfl), (HS.mu 3 rfl), (HS.mu 4 rfl), (HS.mu 5 rfl), (HS.mu 6 rfl), trivial⟩⟩, ?_⟩
     obtain ⟨t259, ha260, H⟩ := bind_some H
     refine dc_ 1 (w_none rfl) func105 (impl_cloneStore.runs k (⟨x0.f0, x0.f1⟩ : S58) A0_0 c0_0 A0_1 c0_1 t259 _ (HS.getO 0 rfl) hc0_0 (HS.getO 1 rfl) hc0_1 ha260) ?_
     exact by (
     clear ha260
     rintro _ w261 ⟨v262, bl263, v264, bl265, rfl, hO_, hb⟩
     replace HS := HS.got hb hO_
     dsimp only [List.cons_append, List.nil_append] at HS
     clear hO_
     obtain ⟨I266, bl267, HS⟩ := HS.unseal (sz := 1) rfl
     replace HS := HS.freezeN 1 (p := (rF kI t259.f0 I266)) rfl (fun _ hP_ _ => RepsB.reps hP_)
     dsimp only [List.eraseIdx] at HS
     exact by (
     replace HS := HS.front 1 rfl
     dsimp only [List.eraseIdx] at HS
     obtain ⟨I268, bl269, HS⟩ := HS.unseal (sz := 1) rfl
     refine ⟨⟨HS.nowO, HS.nowN.2, ⟨(HS.mu 5 rfl), (HS.mu 6 rfl), (HS.mu 7 rfl), (HS.mu 8 rfl), (HS.mu 9 rfl), trivial⟩⟩, _, rfl, ?_⟩
     clear hb
     obtain ⟨t270, ha271, H⟩ := bind_some H
     refine dc_ 3 (w_none rfl) func106 (impl_cloneTable.runs k (⟨x1.f0, x1.f1⟩ : S67) A1_0 c1_0 t270 _ (HS.getO 2 rfl) hc1_0 ha271) ?_
     clear ha271
     exact by (
     rintro _ w272 ⟨v273, bl274, rfl, hO_, hb⟩
     replace HS := HS.got hb hO_
     dsimp only [List.cons_append, List.nil_append] at HS
     clear hO_
     obtain ⟨I275, bl276, HS⟩ := HS.unseal (sz := 1) rfl
     replace HS := HS.freezeN 1 (p := (rF kI t270.f0 I275)) rfl (fun _ hP_ _ => RepsB.reps hP_)
     dsimp only [List.eraseIdx] at HS
     refine ⟨⟨HS.nowO, HS.nowN.2.2, ⟨(HS.mu 6 rfl), (HS.mu 7 rfl), (HS.mu 8 rfl), (HS.mu 9 rfl), (HS.mu 10 rfl), trivial⟩⟩, _, rfl, ?_⟩
     exact by (
     clear hb
     obtain ⟨A278, c279, rfl⟩ := row_slice (HS.mu 3 rfl)
     obtain ⟨A280, c281, rfl⟩ := row_slice (HS.mu 1 rfl)
     refine WD.storeS 6 HS 4 rfl rfl rfl rfl (oneL rfl) (by kernel_rfl) (ble_ rfl) (cs' := #[(.slice A278 t259.f0.length c279), (.slice A280 t259.f1.length c281)]) (by kernel_rfl) (fun w277 HS => ?_)
     dsimp only [List.set] at HS
     refine ⟨⟨HS.nowO, HS.nowN.2.2, ⟨(HS.mu 6 rfl), (HS.mu 7 rfl), (HS.mu 8 rfl), (HS.mu 9 rfl), (HS.mu 10 rfl), trivial⟩⟩, ?_⟩
     obtain ⟨A283, c284, rfl⟩ := row_slice (HS.mu 0 rfl)
     refine WD.storeSL 7 HS 5 rfl rfl rfl rfl (oneL rfl) (by kernel_rfl) (ble_ rfl) (cs' := #[(.slice A283 t270.f0.length c284), vi t270.f1]) (by kernel_rfl) (fun w282 HS => ?_)
     exact by (
     dsimp only [List.set] at HS
     exact dd_ (wv_ iq X20 ⟨b257, b210, A278, t259, c279, A280, c281, A283, t270, c284, I275, I268, bl269, I266, rfl, H, (St.front (St.front (St.front (St.front (St.front (St.front (St.front (St.front (St.front (St.front (St.front HS 10 rfl) 10 rfl) 10 rfl) 10 rfl) 10 rfl) 8 rfl) 8 rfl) 8 rfl) 8 rfl) 9 rfl) 10 rfl)⟩) ))))))))))
def impl_cellsOf.b0 (x0 : S58) (x1 : S67) (rec_ : (List S62) → Int → Option ((List S62) × Int)) (k26 : Nat) (xs13 : List S62) (i16 : Int) : Option ((List S62) × Int) := (if i16 < (x1.f0.length : Int) then (if 0 ≤ i16 ∧ i16 < (x1.f0.length : Int) then (if 0 ≤ (x1.f0.getD i16.toNat 0) ∧ (x1.f0.getD i16.toNat 0) < (x0.f1.length : Int) then ((impl_lastCells.g k26 (⟨x1.f0, x1.f1⟩ : S67) i16).bind fun t42 => (if 0 ≤ t42 ∧ t42 ≤ ((x0.f1.getD (x1.f0.getD i16.toNat 0).toNat []).length : Int) then (if (xs13.length) + (((x0.f1.getD (x1.f0.getD i16.toNat 0).toNat []).take t42.toNat).length) < 4294967296 then (rec_ (xs13 ++ ((x0.f1.getD (x1.f0.getD i16.toNat 0).toNat []).take t42.toNat)) (wrap64 (i16 + 1))) else none) else none)) else none) else none) else (some (xs13, i16)))
def impl_cellsOf.l0 (x0 : S58) (x1 : S67) : Nat → (List S62) → Int → Option ((List S62) × Int)
 | 0, _, _ => none
 | k + 1, xs13, i16 => impl_cellsOf.b0 x0 x1 (impl_cellsOf.l0 x0 x1 k) k xs13 i16
def impl_cellsOf.g (k : Nat) (x0 : S58) (x1 : S67) : Option (List S62) := ((impl_cellsOf.l0 x0 x1 k ([] : List S62) 0).bind (fun oc24 => (some oc24.1)))
theorem impl_cellsOf.runs (k : Nat) (x0 : S58) (A0_0 : Option Addr) (c0_0 : Nat) (A0_1 : Option Addr) (c0_1 : Nat) (x1 : S67) (A1_0 : Option Addr) (c1_0 : Nat) (r : List S62) (ok : Nat → Prop) (w : World) (hr0_0 : Foot (cF kI A0_0 x0.f0) w ok) (hc0_0 : x0.f0.length ≤ c0_0) (hr0_1 : Foot (cF kS62 A0_1 x0.f1) w ok) (hc0_1 : x0.f1.length ≤ c0_1) (hr1_0 : Foot (cF kI A1_0 x1.f0) w ok) (hc1_0 : x1.f0.length ≤ c1_0) (H : impl_cellsOf.g k x0 x1 = some r) :
   Calls prog 119 #[.agg #[.slice A0_0 x0.f0.length c0_0, .slice A0_1 x0.f1.length c0_1], .agg #[.slice A1_0 x1.f0.length c1_0, vi x1.f1]] w fun e w' => ∃ (A0_ : Option Addr) (c0_ : Nat), e = .returned (.slice A0_ r.length c0_) ∧ r.length ≤ c0_ ∧ Foot (cF k62 A0_ r) w' (fun k_ => ok k_ ∨ w.heap.size ≤ k_) ∧ Below w.heap.size w w' := by
 unfold impl_cellsOf.g at H
 have HS : St ok w w [] [(cF kI A0_0 x0.f0), (cF kS62 A0_1 x0.f1), (cF kI A1_0 x1.f0)] [] := St.start (foot_cons hr0_0 (foot_cons hr0_1 (foot_cons hr1_0 foot_nil)))
 refine cw_ (n := 29) func119 fun R_ hR_ => ?_
 refine sr_ fun _ hK1 => ?_
 refine bo_ HS (fun b2 w3 hb2 HS => ?_)
 refine bo_ HS (fun b4 w5 hb4 HS => ?_)
 refine ad_ hK1 ?_
 refine sr_ fun _ hK6 => ?_
 refine ad_ hK6 ?_
 refine WC.seq fun K7 hK7 => ?_
 refine sr_ fun _ hK8 => ?_
 refine v_ (fa_ underlying67) ?_
 refine v_ (lb_ (HS.mu 0 rfl) underlying22 rfl) ?_
 refine ln_ underlying22 ?_
 refine mv_ ?_
 refine dn_ hK8 (WC.block ?_)
 replace HS := HS.rowNil 62 2
 replace HS := HS.deriveO (p := (rF k62 ([] : List S62) [])) (fun _ _ _ => Reps.none _ _)
 obtain ⟨G9, hG10, oc11, H, Ho12⟩ := open_G H
 let J17 := fun (xs13 : List S62) v14 I15 (i16 : Int) (E_ : Env) (W_ : World) => E_ = [(2, .pointer (some ⟨b2, 0, none⟩)), (3, .pointer (some ⟨b4, 0, none⟩)), (5, v14), (9, .slice A1_0 x1.f0.length c1_0), (10, vi (x1.f0.length : Int)), (11, vi i16)] ∧ St ok w W_ [rowM w.heap.size 62 2 v14 xs13.length I15, boxM b4 #[.slice A1_0 x1.f0.length c1_0, vi x1.f1] 67, boxM b2 #[.slice A0_0 x0.f0.length c0_0, .slice A0_1 x0.f1.length c0_1] 58] [(rF k62 xs13 I15), (cF kI A0_0 x0.f0), (cF kS62 A0_1 x0.f1), (cF kI A1_0 x1.f0)] []
 have X18 : ∀ E_ W_, (∃ xs13 v14 I15 i16, G9 (xs13, i16) = some r ∧ J17 xs13 v14 I15 i16 E_ W_) → ∀ a, Fits a 29 E_ → K7 a W_ := by
   rintro E_ w19 ⟨xs13, v14, I15, i16, H, rfl, HS⟩
   rw [hG10] at H
   (try dsimp only at H)
   refine hK7 _ _ ?_
   refine sr_ fun _ hK20 => ?_
   refine mv_ ?_
   refine ad_ hK20 ?_
   refine WC.ret ?_
   obtain ⟨A21, c22, rfl⟩ := row_slice (HS.mu 0 rfl)
   have le23 := row_le (HS.mu 0 rfl)
   replace HS := HS.freezeO 0 (p := (cF k62 A21 (xs13))) rfl (fun W_ hm_ h_ => row_C (by rfl) hm_ h_.1)
   dsimp only [List.eraseIdx] at HS
   obtain rfl := os H
   exact fin1 Try.f119 rfl rfl hR_ ⟨_, _, rfl, le23, (foot_old (HS.footO 0 rfl)), HS.b⟩
 clear hK7
 refine WC.loop (fun k_ E_ W_ => ∃ xs13 v14 I15 i16, (∃ o_, impl_cellsOf.l0 x0 x1 k_ xs13 i16 = some o_ ∧ G9 o_ = some r) ∧ J17 xs13 v14 I15 i16 E_ W_) k ⟨([] : List S62), (sn), ([]), 0, ⟨_, H, Ho12⟩, rfl, HS⟩ (sb rfl) ?_
 rintro k_ E_ w25 ⟨xs13, v14, I15, i16, ⟨oc11, H, Ho12⟩, rfl, HS⟩
 rcases k_ with _ | k26
 · exact no_ H
 replace H : impl_cellsOf.b0 x0 x1 (impl_cellsOf.l0 x0 x1 k26) k26 xs13 i16 = some oc11 := H
 unfold impl_cellsOf.b0 at H
 refine sr_ fun _ hK27 => ?_
 refine b_ bin_lss ?_
 refine dn_ hK27 (WC.seq fun _ hK28 => ?_)
 rcases eti_ H with ⟨c29, H⟩ | ⟨c29, H⟩
 · refine wn_ (dF c29) (WC.exit ?_)
   obtain rfl := os H
   exact wv_ iq X18 ⟨xs13, v14, I15, i16, Ho12, rfl, HS⟩
 refine wy_ (dT c29) (WC.skip (via_ hK28 (WC.seq fun _ hK30 => ?_)))
 refine WC.block (sr_ fun _ hK31 => ?_)
 refine mv_ ?_
 obtain ⟨⟨q32, q33⟩, H⟩ := if_some H
 obtain ⟨ad34, rfl⟩ := C_open (HS.getO 3 rfl) (lenpos q32 q33)
 refine v_ (ia_ underlying22 1 q32 q33) ?_
 refine v_ (Run.load rfl rfl underlying3 rfl (int_cell (HS.getO 3 rfl) i16 q32 q33)) ?_
 refine as_ ?_
 refine ad_ hK31 ?_
 obtain ⟨⟨q35, q36⟩, H⟩ := if_some H
 obtain ⟨ad37, rfl⟩ := C_open (HS.getO 2 rfl) (lenpos q35 q36)
 obtain ⟨A38, c39, le40, HS⟩ := HS.slO 2 rfl (x1.f0.getD i16.toNat 0) q35 q36
 refine WC.drawW HS [boxM b4 #[.slice (some ad34) x1.f0.length c1_0, vi x1.f1] 67, boxM b2 #[.slice A0_0 x0.f0.length c0_0, .slice (some ad37) x0.f1.length c0_1] 58] (fun _ HS => ⟨(HS.mu 1 rfl), (HS.mu 2 rfl), trivial⟩) [] rfl rfl (fun w41 HS => ?_)
 refine dm_ 0 ?_
 refine df_ 1 underlying58 ?_
 refine dm_ 3 ?_
 refine dm_ 7 ?_
 refine dt_ 2 ⟨HS.nowO, HS.nowN, ⟨(HS.mu 1 rfl), (HS.mu 2 rfl), trivial⟩⟩ (fun w_ hw_ => Run.load rfl rfl underlying56 rfl (box_cell hw_.2.2.2.1 rfl)) ?_
 refine di_ 4 underlying56 1 q35 q36 ?_
 refine dt_ 5 ⟨HS.nowO, HS.nowN, ⟨(HS.mu 1 rfl), (HS.mu 2 rfl), trivial⟩⟩ (fun w_ hw_ => Run.load rfl rfl underlying71 rfl (AllF.get 1 rfl hw_.1)) ?_
 refine dt_ 6 ⟨HS.nowO, HS.nowN, ⟨(HS.mu 1 rfl), (HS.mu 2 rfl), trivial⟩⟩ (fun w_ hw_ => Run.loadS (cs := [.slice (some ad34) x1.f0.length c1_0, vi x1.f1]) rfl rfl underlying67 rfl (by kernel_rfl) (box_part hw_.2.2.1 part_all)) ?_
 obtain ⟨t42, ha43, H⟩ := bind_some H
 refine dc_ 8 (w_none rfl) func148 (impl_lastCells.runs k26 (⟨x1.f0, x1.f1⟩ : S67) (some ad34) c1_0 i16 t42 _ (HS.getO 5 rfl) hc1_0 ha43) ?_
 clear ha43
 rintro _ w44 ⟨rfl, hb⟩
 replace HS := HS.below hb
 refine ⟨⟨HS.nowO, HS.nowN, ⟨(HS.mu 1 rfl), (HS.mu 2 rfl), trivial⟩⟩, _, rfl, ?_⟩
 clear hb
 obtain ⟨⟨q45, q46⟩, H⟩ := if_some H
 obtain ⟨A47, c48, he49, le50, hf51⟩ := slc_take k62 A38 c39 (x0.f1.getD (x1.f0.getD i16.toNat 0).toNat []) t42 q45 q46 le40
 replace HS := HS.deriveO (p := (cF k62 A47 ((x0.f1.getD (x1.f0.getD i16.toNat 0).toNat []).take t42.toNat))) (fun W_ hO_ hN_ => hf51 W_ hO_.1)
 refine dp_ 9 (fun _ => Run.eqv he49 (Run.slH rfl underlying71 (by kernel_rfl) rfl rfl q45 (Int.le_trans q46 (Int.ofNat_le.mpr le40)))) ?_
 obtain ⟨q52, H⟩ := if_some H
 obtain ⟨L53, hl54, h55, hF56, hc57⟩ := foot_all (HS.footO 0 rfl) (by decide) rfl
 replace HS := HS.addO (p := (rF k62 ((x0.f1.getD (x1.f0.getD i16.toNat 0).toNat []).take t42.toNat) L53)) hF56
 refine WD.appendL 10 (w_none rfl) HS 0 rfl rfl (.agg #[sn, sn]) 48 underlying71 (by kernel_rfl) rfl (by decide) (by decide) rfl rfl L53 hl54 hc57 h55 (by omega) ((xs13 ++ ((x0.f1.getD (x1.f0.getD i16.toNat 0).toNat []).take t42.toNat)).length) (by simp <;> omega) (fun v58 w59 I60 hI61 HS => ?_)
 dsimp only [List.set] at HS
 replace HS := HS.deriveO (p := (rF k62 (xs13 ++ ((x0.f1.getD (x1.f0.getD i16.toNat 0).toNat []).take t42.toNat)) I60)) (fun W_ hO_ hN_ => reps_more hI61 hO_.2.2.2.2.1 hO_.1)
 refine ⟨⟨HS.nowO.2.2.2, HS.nowN, ⟨(HS.mu 1 rfl), (HS.mu 2 rfl), trivial⟩⟩, ?_⟩
 refine dp_ 11 (fun _ => Run.assign rfl rfl) ?_
 refine dd_ (via_ hK30 (rg_ (b_ bin_add64 ?_)))
 refine mv_ ?_
 refine WL.done ?_
 exact wr_ k26 iq ⟨(xs13 ++ ((x0.f1.getD (x1.f0.getD i16.toNat 0).toNat []).take t42.toNat)), v58, I60, (wrap64 (i16 + 1)), ⟨_, H, Ho12⟩, rfl, (St.pk HS [0, 6, 7, 8] [] rfl rfl)⟩
def impl_CellsOf.g (k : Nat) (x0 : S58) (x1 : S67) : Option ((List S62) × Bool) := ((impl_TableOk.g k (⟨x0.f0, x0.f1⟩ : S58) (⟨x1.f0, x1.f1⟩ : S67)).bind fun t8 => (if t8 = true then ((impl_cellsOf.g k (⟨x0.f0, x0.f1⟩ : S58) (⟨x1.f0, x1.f1⟩ : S67)).bind fun t13 => ((impl_cloneCells.g k t13).bind fun t20 => (some (t20, true)))) else (some ([], false))))
theorem impl_CellsOf.runs (k : Nat) (x0 : S58) (A0_0 : Option Addr) (c0_0 : Nat) (A0_1 : Option Addr) (c0_1 : Nat) (x1 : S67) (A1_0 : Option Addr) (c1_0 : Nat) (r1 : List S62) (r2 : Bool) (w : World) (hr0_0 : kI.C w A0_0 x0.f0.length x0.f0) (hc0_0 : x0.f0.length ≤ c0_0) (hr0_1 : kS62.C w A0_1 x0.f1.length x0.f1) (hc0_1 : x0.f1.length ≤ c0_1) (hr1_0 : kI.C w A1_0 x1.f0.length x1.f0) (hc1_0 : x1.f0.length ≤ c1_0) (H : impl_CellsOf.g k x0 x1 = some (r1, r2)) :
   Calls prog 49 #[.agg #[.slice A0_0 x0.f0.length c0_0, .slice A0_1 x0.f1.length c0_1], .agg #[.slice A1_0 x1.f0.length c1_0, vi x1.f1]] w fun e w' => ∃ (v0_ : Value) (bl0_ : List Nat), e = .returned (.tuple #[v0_, .bool r2]) ∧ Owns w' w.heap.size [valM (Dk.slice 62 dq62) r1 [v0_] bl0_] ∧ Below w.heap.size w w' := by
 unfold impl_CellsOf.g at H
 have HS : St (fun _ => True) w w [] [(cF kI A0_0 x0.f0), (cF kS62 A0_1 x0.f1), (cF kI A1_0 x1.f0)] [] := St.start (foot_cons (foot_C (Kd.heap_int _) hr0_0) (foot_cons (foot_C (Kd.heap_slice _ h62) hr0_1) (foot_cons (foot_C (Kd.heap_int _) hr1_0) foot_nil)))
 refine cw_ (n := 14) func49 fun R_ hR_ => ?_
 refine sr_ fun _ hK1 => ?_
 refine bo_ HS (fun b2 w3 hb2 HS => ?_)
 refine bo_ HS (fun b4 w5 hb4 HS => ?_)
 refine as_ ?_
 refine ad_ hK1 ?_
 refine WC.seq fun _ hK6 => ?_
 refine sr_ fun _ hK7 => ?_
 refine v_ (ls_ (HS.mu 1 rfl) underlying58 part_all) ?_
 refine v_ (ls_ (HS.mu 0 rfl) underlying67 part_all) ?_
 obtain ⟨t8, ha9, H⟩ := bind_some H
 refine cs_ HS func57 (impl_TableOk.runs k (⟨x0.f0, x0.f1⟩ : S58) A0_0 c0_0 A0_1 c0_1 (⟨x1.f0, x1.f1⟩ : S67) A1_0 c1_0 t8 _ (HS.getO 0 rfl) hc0_0 (HS.getO 1 rfl) hc0_1 (HS.getO 2 rfl) hc1_0 ha9) (fun w10 HS => ?_)
 clear ha9
 refine nt_ ?_
 refine dn_ hK7 ?_
 rcases eti_ H with ⟨c11, H⟩ | ⟨c11, H⟩
 · refine wy_ (nB (bF c11)) (sr_ fun _ hK29 => ?_)
   refine as_ ?_
   refine ad_ hK29 ?_
   refine WC.ret ?_
   replace HS := HS.nilV (α := S62) 62 (dq62)
   obtain ⟨rfl, rfl⟩ := Prod.mk.inj (os H)
   exact fin2 Try.f49 rfl rfl rfl hR_ ⟨_, _, rfl, (St.owns (St.forget (St.forget HS 2 rfl) 1 rfl)), HS.b⟩
 refine wn_ (nB c11) (WC.skip (via_ hK6 (sr_ fun _ hK12 => ?_)))
 refine v_ (ls_ (HS.mu 1 rfl) underlying58 part_all) ?_
 refine v_ (ls_ (HS.mu 0 rfl) underlying67 part_all) ?_
 obtain ⟨t13, ha14, H⟩ := bind_some H
 refine c_ func119 (impl_cellsOf.runs k (⟨x0.f0, x0.f1⟩ : S58) A0_0 c0_0 A0_1 c0_1 (⟨x1.f0, x1.f1⟩ : S67) A1_0 c1_0 t13 _ _ (HS.footO 0 rfl) hc0_0 (HS.footO 1 rfl) hc0_1 (HS.footO 2 rfl) hc1_0 ha14) ?_
 clear ha14
 rintro _ w15 ⟨A16, c17, rfl, le18, hf19, hb⟩
 replace HS := HS.newOs hb (foot_cons hf19 foot_nil)
 refine ⟨_, rfl, ?_⟩
 clear hb
 obtain ⟨t20, ha21, H⟩ := bind_some H
 refine c_ func107 (impl_cloneCells.runs k A16 c17 t13 t20 _ (HS.getO 0 rfl) le18 ha21) ?_
 clear ha21
 rintro _ w22 ⟨v23, bl24, rfl, hO_, hb⟩
 replace HS := HS.got hb hO_
 dsimp only [List.cons_append, List.nil_append] at HS
 clear hO_
 obtain ⟨I25, bl26, HS⟩ := HS.unseal (sz := 2) rfl
 refine ⟨_, rfl, ?_⟩
 clear hb
 refine as_ ?_
 refine ad_ hK12 ?_
 refine WC.ret ?_
 obtain ⟨A27, c28, rfl⟩ := row_slice (HS.mu 0 rfl)
 replace HS := HS.front 1 rfl
 dsimp only [List.eraseIdx] at HS
 replace HS := HS.front 1 rfl
 dsimp only [List.eraseIdx] at HS
 replace HS := HS.seal rfl rfl
 obtain ⟨rfl, rfl⟩ := Prod.mk.inj (os H)
 exact fin2 Try.f49 rfl rfl rfl hR_ ⟨_, _, rfl, (St.owns (St.forget (St.forget HS 2 rfl) 1 rfl)), HS.b⟩
def laws_sameInts.b0 (l0 : List Int) (l1 : List Int) (rec_ : Int → Option (Bool ⊕ Int)) (k18 : Nat) (i11 : Int) : Option (Bool ⊕ Int) := (if i11 < (l0.length : Int) then (if 0 ≤ i11 ∧ i11 < (l0.length : Int) then (if 0 ≤ i11 ∧ i11 < (l1.length : Int) then (if (l0.getD i11.toNat 0) = (l1.getD i11.toNat 0) then (rec_ (wrap64 (i11 + 1))) else (some (Sum.inl false))) else none) else none) else (some (Sum.inr i11)))
def laws_sameInts.l0 (l0 : List Int) (l1 : List Int) : Nat → Int → Option (Bool ⊕ Int)
 | 0, _ => none
 | k + 1, i11 => laws_sameInts.b0 l0 l1 (laws_sameInts.l0 l0 l1 k) k i11
def laws_sameInts.g (k : Nat) (l0 : List Int) (l1 : List Int) : Option Bool := (if (l0.length : Int) = (l1.length : Int) then ((laws_sameInts.l0 l0 l1 k 0).bind (fun oc16 => match oc16 with | .inl r_ => some r_ | .inr i11 => (some true))) else (some false))
theorem laws_sameInts.runs (k : Nat) (A0 : Option Addr) (c0 : Nat) (l0 : List Int) (A1 : Option Addr) (c1 : Nat) (l1 : List Int) (r : Bool) (w : World) (hr0 : kI.C w A0 l0.length l0) (hc0 : l0.length ≤ c0) (hr1 : kI.C w A1 l1.length l1) (hc1 : l1.length ≤ c1) (H : laws_sameInts.g k l0 l1 = some r) :
   Calls prog 42 #[.slice A0 l0.length c0, .slice A1 l1.length c1] w fun e w' => e = .returned (.bool r) ∧ Below w.heap.size w w' := by
 unfold laws_sameInts.g at H
 have HS : St (fun _ => True) w w [] [(cF kI A0 l0), (cF kI A1 l1)] [] := St.start (foot_cons (foot_C (Kd.heap_int _) hr0) (foot_cons (foot_C (Kd.heap_int _) hr1) foot_nil))
 refine cw_ (n := 26) func42 fun R_ hR_ => ?_
 refine sr_ fun _ hK1 => ?_
 refine ad_ hK1 ?_
 refine WC.seq fun _ hK2 => ?_
 refine sr_ fun _ hK3 => ?_
 refine mv_ ?_
 refine ln_ underlying22 ?_
 refine mv_ ?_
 refine ln_ underlying22 ?_
 refine b_ bin_neq ?_
 refine dn_ hK3 ?_
 rcases eti_ H with ⟨c4, H⟩ | ⟨c4, H⟩
 · refine wy_ (qT c4) (sr_ fun _ hK33 => ?_)
   refine ad_ hK33 ?_
   obtain rfl := os H
   exact rt1 Try.f42 rfl rfl hR_ ⟨rfl, HS.b⟩
 refine wn_ (qF c4) (WC.skip (via_ hK2 (WC.seq fun K5 hK5 => ?_)))
 refine sr_ fun _ hK6 => ?_
 refine ad_ hK6 ?_
 refine WC.block ?_
 obtain ⟨G7, hG8, oc9, H, Ho10⟩ := open_G H
 let J12 := fun (i11 : Int) (E_ : Env) (W_ : World) => E_ = [(0, .slice A0 l0.length c0), (1, .slice A1 l1.length c1), (5, vi i11)] ∧ St (fun _ => True) w W_ [] [(cF kI A0 l0), (cF kI A1 l1)] []
 have X13 : ∀ E_ W_, (∃ i11, G7 (Sum.inr i11) = some r ∧ J12 i11 E_ W_) → ∀ a, Fits a 26 E_ → K5 a W_ := by
   rintro E_ w14 ⟨i11, H, rfl, HS⟩
   rw [hG8] at H
   (try dsimp only at H)
   refine hK5 _ _ ?_
   refine sr_ fun _ hK15 => ?_
   refine ad_ hK15 ?_
   obtain rfl := os H
   exact rt1 Try.f42 rfl rfl hR_ ⟨rfl, HS.b⟩
 clear hK5
 refine WC.loop (fun k_ E_ W_ => ∃ i11, (∃ o_, laws_sameInts.l0 l0 l1 k_ i11 = some o_ ∧ G7 o_ = some r) ∧ J12 i11 E_ W_) k ⟨0, ⟨_, H, Ho10⟩, rfl, HS⟩ (sb rfl) ?_
 rintro k_ E_ w17 ⟨i11, ⟨oc9, H, Ho10⟩, rfl, HS⟩
 rcases k_ with _ | k18
 · exact no_ H
 replace H : laws_sameInts.b0 l0 l1 (laws_sameInts.l0 l0 l1 k18) k18 i11 = some oc9 := H
 unfold laws_sameInts.b0 at H
 refine WC.seq fun _ hK19 => ?_
 refine sr_ fun _ hK20 => ?_
 refine mv_ ?_
 refine mv_ ?_
 refine ln_ underlying22 ?_
 refine b_ bin_lss ?_
 refine dn_ hK20 ?_
 rcases eti_ H with ⟨c21, H⟩ | ⟨c21, H⟩
 · refine wn_ (dF c21) (WC.exit ?_)
   obtain rfl := os H
   exact wv_ iq X13 ⟨i11, Ho10, rfl, HS⟩
 refine wy_ (dT c21) (WC.skip (via_ hK19 (WC.seq fun _ hK22 => ?_)))
 refine WC.block (WC.seq fun _ hK23 => ?_)
 refine WC.drawS HS [] rfl rfl (fun w24 HS => ?_)
 have HB := Below.refl w24.heap.size w24
 have HSW := HS
 refine dm_ 0 ?_
 refine dm_ 1 ?_
 obtain ⟨⟨q25, q26⟩, H⟩ := if_some H
 obtain ⟨ad27, rfl⟩ := C_open (HS.getO 0 rfl) (lenpos q25 q26)
 refine di_ 2 underlying22 1 q25 q26 ?_
 refine dm_ 4 ?_
 refine dm_ 5 ?_
 obtain ⟨⟨q28, q29⟩, H⟩ := if_some H
 obtain ⟨ad30, rfl⟩ := C_open (HS.getO 1 rfl) (lenpos q28 q29)
 refine di_ 6 underlying22 1 q28 q29 ?_
 refine dt_ 3 (Below.refl _ _) (fun w_ hw_ => Run.load rfl rfl underlying3 rfl (int_cell ((HS.below hw_).getO 0 rfl) i11 q25 q26)) ?_
 refine dt_ 7 (Below.refl _ _) (fun w_ hw_ => Run.load rfl rfl underlying3 rfl (int_cell ((HS.below hw_).getO 1 rfl) i11 q28 q29)) ?_
 refine dp_ 8 (fun _ => Run.bin rfl rfl rfl bin_neq) ?_
 refine dd_ ?_
 clear HB HSW
 refine via_ hK23 ?_
 rcases ite_ H with ⟨c31, H⟩ | ⟨c31, H⟩
 · refine wn_ (qF c31) (WC.skip (via_ hK22 (rg_ (mv_ ?_))))
   refine b_ bin_add64 ?_
   refine as_ ?_
   refine WL.done ?_
   exact wr_ k18 iq ⟨(wrap64 (i11 + 1)), ⟨_, H, Ho10⟩, rfl, HS⟩
 refine wy_ (qT c31) (sr_ fun _ hK32 => ?_)
 refine ad_ hK32 ?_
 refine WC.ret ?_
 obtain rfl := os H
 rw [hG8] at Ho10
 replace H : some _ = some _ := Ho10
 obtain rfl := os H
 exact fin1 Try.f42 rfl rfl hR_ ⟨rfl, HS.b⟩
def laws_sameParts.b0 (l0 : List S149) (l1 : List S149) (rec_ : Int → Option (Bool ⊕ Int)) (k18 : Nat) (i11 : Int) : Option (Bool ⊕ Int) := (if i11 < (l0.length : Int) then (if 0 ≤ i11 ∧ i11 < (l0.length : Int) then (if 0 ≤ i11 ∧ i11 < (l1.length : Int) then (if ((l0.getD i11.toNat o149).f0) = ((l1.getD i11.toNat o149).f0) then ((laws_sameInts.g k18 ((l0.getD i11.toNat o149).f1) ((l1.getD i11.toNat o149).f1)).bind fun t44 => (if t44 = true then (rec_ (wrap64 (i11 + 1))) else (some (Sum.inl false)))) else (some (Sum.inl false))) else none) else none) else (some (Sum.inr i11)))
def laws_sameParts.l0 (l0 : List S149) (l1 : List S149) : Nat → Int → Option (Bool ⊕ Int)
 | 0, _ => none
 | k + 1, i11 => laws_sameParts.b0 l0 l1 (laws_sameParts.l0 l0 l1 k) k i11
def laws_sameParts.g (k : Nat) (l0 : List S149) (l1 : List S149) : Option Bool := (if (l0.length : Int) = (l1.length : Int) then ((laws_sameParts.l0 l0 l1 k 0).bind (fun oc16 => match oc16 with | .inl r_ => some r_ | .inr i11 => (some true))) else (some false))
theorem laws_sameParts.runs (k : Nat) (A0 : Option Addr) (c0 : Nat) (l0 : List S149) (A1 : Option Addr) (c1 : Nat) (l1 : List S149) (r : Bool) (w : World) (hr0 : k149.C w A0 l0.length l0) (hc0 : l0.length ≤ c0) (hr1 : k149.C w A1 l1.length l1) (hc1 : l1.length ≤ c1) (H : laws_sameParts.g k l0 l1 = some r) :
   Calls prog 120 #[.slice A0 l0.length c0, .slice A1 l1.length c1] w fun e w' => e = .returned (.bool r) ∧ Below w.heap.size w w' := by
 unfold laws_sameParts.g at H
 have HS : St (fun _ => True) w w [] [(cF k149 A0 l0), (cF k149 A1 l1)] [] := St.start (foot_cons (foot_C h149 hr0) (foot_cons (foot_C h149 hr1) foot_nil))
 refine cw_ (n := 42) func120 fun R_ hR_ => ?_
 refine sr_ fun _ hK1 => ?_
 refine ad_ hK1 ?_
 refine WC.seq fun _ hK2 => ?_
 refine sr_ fun _ hK3 => ?_
 refine mv_ ?_
 refine ln_ underlying133 ?_
 refine mv_ ?_
 refine ln_ underlying133 ?_
 refine b_ bin_neq ?_
 refine dn_ hK3 ?_
 rcases eti_ H with ⟨c4, H⟩ | ⟨c4, H⟩
 · refine wy_ (qT c4) (sr_ fun _ hK50 => ?_)
   refine ad_ hK50 ?_
   obtain rfl := os H
   exact rt1 Try.f120 rfl rfl hR_ ⟨rfl, HS.b⟩
 refine wn_ (qF c4) (WC.skip (via_ hK2 (WC.seq fun K5 hK5 => ?_)))
 refine sr_ fun _ hK6 => ?_
 refine ad_ hK6 ?_
 refine WC.block ?_
 obtain ⟨G7, hG8, oc9, H, Ho10⟩ := open_G H
 let J12 := fun (i11 : Int) (E_ : Env) (W_ : World) => E_ = [(0, .slice A0 l0.length c0), (1, .slice A1 l1.length c1), (5, vi i11)] ∧ St (fun _ => True) w W_ [] [(cF k149 A0 l0), (cF k149 A1 l1)] []
 have X13 : ∀ E_ W_, (∃ i11, G7 (Sum.inr i11) = some r ∧ J12 i11 E_ W_) → ∀ a, Fits a 42 E_ → K5 a W_ := by
   rintro E_ w14 ⟨i11, H, rfl, HS⟩
   rw [hG8] at H
   (try dsimp only at H)
   refine hK5 _ _ ?_
   refine sr_ fun _ hK15 => ?_
   refine ad_ hK15 ?_
   obtain rfl := os H
   exact rt1 Try.f120 rfl rfl hR_ ⟨rfl, HS.b⟩
 clear hK5
 refine WC.loop (fun k_ E_ W_ => ∃ i11, (∃ o_, laws_sameParts.l0 l0 l1 k_ i11 = some o_ ∧ G7 o_ = some r) ∧ J12 i11 E_ W_) k ⟨0, ⟨_, H, Ho10⟩, rfl, HS⟩ (sb rfl) ?_
 rintro k_ E_ w17 ⟨i11, ⟨oc9, H, Ho10⟩, rfl, HS⟩
 rcases k_ with _ | k18
 · exact no_ H
 replace H : laws_sameParts.b0 l0 l1 (laws_sameParts.l0 l0 l1 k18) k18 i11 = some oc9 := H
 unfold laws_sameParts.b0 at H
 refine WC.seq fun _ hK19 => ?_
 refine sr_ fun _ hK20 => ?_
 refine mv_ ?_
 refine mv_ ?_
 refine ln_ underlying133 ?_
 refine b_ bin_lss ?_
 refine dn_ hK20 ?_
 rcases eti_ H with ⟨c21, H⟩ | ⟨c21, H⟩
 · refine wn_ (dF c21) (WC.exit ?_)
   obtain rfl := os H
   exact wv_ iq X13 ⟨i11, Ho10, rfl, HS⟩
 refine wy_ (dT c21) (WC.skip (via_ hK19 (WC.seq fun _ hK22 => ?_)))
 refine WC.block (WC.seq fun _ hK23 => ?_)
 refine WC.drawS HS [] rfl rfl (fun w24 HS => ?_)
 have HB := Below.refl w24.heap.size w24
 have HSW := HS
 refine dm_ 0 ?_
 refine dm_ 1 ?_
 obtain ⟨⟨q25, q26⟩, H⟩ := if_some H
 obtain ⟨ad27, rfl⟩ := C_open (HS.getO 0 rfl) (lenpos q25 q26)
 refine di_ 2 underlying133 2 q25 q26 ?_
 refine df_ 3 underlying149 ?_
 refine dm_ 5 ?_
 refine dm_ 6 ?_
 obtain ⟨⟨q28, q29⟩, H⟩ := if_some H
 obtain ⟨ad30, rfl⟩ := C_open (HS.getO 1 rfl) (lenpos q28 q29)
 refine di_ 7 underlying133 2 q28 q29 ?_
 refine df_ 8 underlying149 ?_
 obtain ⟨e31, el32, HS⟩ := HS.elO 0 rfl (by decide) o149 i11 q25 q26
 replace HSW := HS
 refine dt_ 4 (Below.refl _ _) (fun w_ hw_ => Run.load rfl rfl underlying3 rfl (((HS.below hw_).getO 0 rfl).2 0 _ (at149_0 (AtK.whole ((HS.below hw_).getO 0 rfl).1)).int)) ?_
 obtain ⟨e33, el34, HS⟩ := HS.elO 2 rfl (by decide) o149 i11 q28 q29
 replace HSW := HS
 refine dt_ 9 (Below.refl _ _) (fun w_ hw_ => Run.load rfl rfl underlying3 rfl (((HS.below hw_).getO 0 rfl).2 0 _ (at149_0 (AtK.whole ((HS.below hw_).getO 0 rfl).1)).int)) ?_
 refine dp_ 10 (fun _ => Run.bin rfl rfl rfl bin_neq) ?_
 refine dm_ 11 ?_
 rcases eti_ H with ⟨c35, H⟩ | ⟨c35, H⟩
 · refine doTs_ 12 28 [12, 13, 14, 15, 16, 17, 18, 19, 20, 21, 22, 23] [29, 30, 31, 32, 33, 34, 35, 36, 37, 38, 39, 40] (qT c35) ?_
   refine dp_ 24 (fun _ => Run.pickT rfl rfl (qT c35) rfl) ?_
   refine dd_ ?_
   clear HB HSW
   refine via_ hK23 (wy_ rfl ?_)
   refine sr_ fun _ hK49 => ?_
   refine ad_ hK49 ?_
   refine WC.ret ?_
   obtain rfl := os H
   rw [hG8] at Ho10
   replace H : some _ = some _ := Ho10
   obtain rfl := os H
   exact fin1 Try.f120 rfl rfl hR_ ⟨rfl, HS.b⟩
 refine dg_ 12 (qF c35) (fun _ => Run.move rfl rfl) ?_
 refine dg_ 13 (qF c35) (fun _ => Run.move rfl rfl) ?_
 refine dg_ 14 (qF c35) (fun _ => Run.indexAddr rfl rfl rfl underlying133 (sz := 2) (by kernel_rfl) q25 q26) ?_
 refine dfg_ 15 (qF c35) underlying149 ?_
 refine dg_ 17 (qF c35) (fun _ => Run.move rfl rfl) ?_
 refine dg_ 18 (qF c35) (fun _ => Run.move rfl rfl) ?_
 refine dg_ 19 (qF c35) (fun _ => Run.indexAddr rfl rfl rfl underlying133 (sz := 2) (by kernel_rfl) q28 q29) ?_
 refine dfg_ 20 (qF c35) underlying149 ?_
 obtain ⟨A36, c37, hc38, le39, HS⟩ := HS.eO 1 rfl at149_1
 refine dh_ 16 (qF c35) (Below.refl _ _) (fun w_ hw_ => Run.load rfl rfl underlying22 rfl (((HS.below hw_).getO 2 rfl).2 1 _ hc38)) ?_
 obtain ⟨A40, c41, hc42, le43, HS⟩ := HS.eO 1 rfl at149_1
 refine dh_ 21 (qF c35) (Below.refl _ _) (fun w_ hw_ => Run.load rfl rfl underlying22 rfl (((HS.below hw_).getO 2 rfl).2 1 _ hc42)) ?_
 obtain ⟨t44, ha45, H⟩ := bind_some H
 refine dcs_ HS HB 22 (w_on rfl rfl rfl (qF c35)) func42 (laws_sameInts.runs k18 A36 c37 ((l0.getD i11.toNat o149).f1) A40 c41 ((l1.getD i11.toNat o149).f1) t44 _ (HS.getO 1 rfl) le39 (HS.getO 0 rfl) le43 ha45) (fun w46 HS HB => ?_)
 clear ha45
 refine dg_ 23 (qF c35) (fun _ => Run.not rfl rfl) ?_
 refine dp_ 24 (fun _ => Run.pickF rfl rfl (qF c35) rfl) ?_
 refine dd_ ?_
 clear HB HSW
 refine via_ hK23 ?_
 rcases ite_ H with ⟨c47, H⟩ | ⟨c47, H⟩
 · refine wn_ (nB c47) (WC.skip (via_ hK22 (rg_ (mv_ ?_))))
   refine b_ bin_add64 ?_
   refine as_ ?_
   refine WL.done ?_
   exact wr_ k18 iq ⟨(wrap64 (i11 + 1)), ⟨_, H, Ho10⟩, rfl, (St.pk HS [4, 5] [] rfl rfl)⟩
 refine wy_ (nB (bF c47)) (sr_ fun _ hK48 => ?_)
 refine ad_ hK48 ?_
 refine WC.ret ?_
 obtain rfl := os H
 rw [hG8] at Ho10
 replace H : some _ = some _ := Ho10
 obtain rfl := os H
 exact fin1 Try.f120 rfl rfl hR_ ⟨rfl, HS.b⟩
def laws_sameCell.b1 (x0 : S62) (x1 : S62) (rec_ : Int → Option (Bool ⊕ Int)) (k59 : Nat) (i16 : Int) : Option (Bool ⊕ Int) := (if i16 < (x0.f0.length : Int) then (if 0 ≤ i16 ∧ i16 < (x0.f0.length : Int) then (if 0 ≤ i16 ∧ i16 < (x1.f0.length : Int) then ((laws_sameParts.g k59 (x0.f0.getD i16.toNat []) (x1.f0.getD i16.toNat [])).bind fun t78 => (if t78 = true then (rec_ (wrap64 (i16 + 1))) else (some (Sum.inl false)))) else none) else none) else (some (Sum.inr i16)))
def laws_sameCell.l1 (x0 : S62) (x1 : S62) : Nat → Int → Option (Bool ⊕ Int)
 | 0, _ => none
 | k + 1, i16 => laws_sameCell.b1 x0 x1 (laws_sameCell.l1 x0 x1 k) k i16
def laws_sameCell.b0 (x0 : S62) (x1 : S62) (rec_ : Int → Option (Bool ⊕ Int)) (k33 : Nat) (i26 : Int) : Option (Bool ⊕ Int) := (if i26 < (x0.f1.length : Int) then (if 0 ≤ i26 ∧ i26 < (x0.f1.length : Int) then (if 0 ≤ i26 ∧ i26 < (x1.f1.length : Int) then ((laws_sameParts.g k33 (x0.f1.getD i26.toNat []) (x1.f1.getD i26.toNat [])).bind fun t52 => (if t52 = true then (rec_ (wrap64 (i26 + 1))) else (some (Sum.inl false)))) else none) else none) else (some (Sum.inr i26)))
def laws_sameCell.l0 (x0 : S62) (x1 : S62) : Nat → Int → Option (Bool ⊕ Int)
 | 0, _ => none
 | k + 1, i26 => laws_sameCell.b0 x0 x1 (laws_sameCell.l0 x0 x1 k) k i26
def laws_sameCell.g (k : Nat) (x0 : S62) (x1 : S62) : Option Bool := (if (x0.f0.length : Int) = (x1.f0.length : Int) then (if (x0.f1.length : Int) = (x1.f1.length : Int) then ((laws_sameCell.l1 x0 x1 k 0).bind (fun oc57 => match oc57 with | .inl r_ => some r_ | .inr i16 => ((laws_sameCell.l0 x0 x1 k 0).bind (fun oc31 => match oc31 with | .inl r_ => some r_ | .inr i26 => (some true))))) else (some false)) else (some false))
theorem laws_sameCell.runs (k : Nat) (x0 : S62) (A0_0 : Option Addr) (c0_0 : Nat) (A0_1 : Option Addr) (c0_1 : Nat) (x1 : S62) (A1_0 : Option Addr) (c1_0 : Nat) (A1_1 : Option Addr) (c1_1 : Nat) (r : Bool) (w : World) (hr0_0 : kS149.C w A0_0 x0.f0.length x0.f0) (hc0_0 : x0.f0.length ≤ c0_0) (hr0_1 : kS149.C w A0_1 x0.f1.length x0.f1) (hc0_1 : x0.f1.length ≤ c0_1) (hr1_0 : kS149.C w A1_0 x1.f0.length x1.f0) (hc1_0 : x1.f0.length ≤ c1_0) (hr1_1 : kS149.C w A1_1 x1.f1.length x1.f1) (hc1_1 : x1.f1.length ≤ c1_1) (H : laws_sameCell.g k x0 x1 = some r) :
   Calls prog 51 #[.agg #[.slice A0_0 x0.f0.length c0_0, .slice A0_1 x0.f1.length c0_1], .agg #[.slice A1_0 x1.f0.length c1_0, .slice A1_1 x1.f1.length c1_1]] w fun e w' => e = .returned (.bool r) ∧ Below w.heap.size w w' := by
 unfold laws_sameCell.g at H
 have HS : St (fun _ => True) w w [] [(cF kS149 A0_0 x0.f0), (cF kS149 A0_1 x0.f1), (cF kS149 A1_0 x1.f0), (cF kS149 A1_1 x1.f1)] [] := St.start (foot_cons (foot_C (Kd.heap_slice _ h149) hr0_0) (foot_cons (foot_C (Kd.heap_slice _ h149) hr0_1) (foot_cons (foot_C (Kd.heap_slice _ h149) hr1_0) (foot_cons (foot_C (Kd.heap_slice _ h149) hr1_1) foot_nil))))
 refine cw_ (n := 61) func51 fun R_ hR_ => ?_
 refine sr_ fun _ hK1 => ?_
 refine bo_ HS (fun b2 w3 hb2 HS => ?_)
 refine bo_ HS (fun b4 w5 hb4 HS => ?_)
 refine ad_ hK1 ?_
 refine WC.seq fun _ hK6 => ?_
 refine sr_ fun _ hK7 => ?_
 refine v_ (fa_ underlying62) ?_
 refine v_ (lb_ (HS.mu 1 rfl) underlying60 rfl) ?_
 refine ln_ underlying60 ?_
 refine v_ (fa_ underlying62) ?_
 refine v_ (lb_ (HS.mu 0 rfl) underlying60 rfl) ?_
 refine ln_ underlying60 ?_
 refine b_ bin_neq ?_
 refine mv_ ?_
 rcases eti_ H with ⟨c8, H⟩ | ⟨c8, H⟩
 · refine off_ (c' := true) (qT c8) ?_
   refine WL.know 14 (qT c8) ?_
   refine fast_ ?_
   refine via_ hK7 (wy_ rfl ?_)
   refine sr_ fun _ hK84 => ?_
   refine ad_ hK84 ?_
   obtain rfl := os H
   exact rt1 Try.f51 rfl rfl hR_ ⟨rfl, HS.b⟩
 refine on_ (qF c8) (v_ (fa_ underlying62) ?_)
 refine on_ (qF c8) (v_ (lb_ (HS.mu 1 rfl) underlying60 rfl) ?_)
 refine on_ (qF c8) (ln_ underlying60 ?_)
 refine on_ (qF c8) (v_ (fa_ underlying62) ?_)
 refine on_ (qF c8) (v_ (lb_ (HS.mu 0 rfl) underlying60 rfl) ?_)
 refine on_ (qF c8) (ln_ underlying60 ?_)
 refine on_ (qF c8) (b_ bin_neq ?_)
 refine v_ (Run.pickF rfl rfl (qF c8) rfl) ?_
 refine dn_ hK7 ?_
 rcases eti_ H with ⟨c9, H⟩ | ⟨c9, H⟩
 · refine wy_ (qT c9) (sr_ fun _ hK83 => ?_)
   refine ad_ hK83 ?_
   obtain rfl := os H
   exact rt1 Try.f51 rfl rfl hR_ ⟨rfl, HS.b⟩
 refine wn_ (qF c9) (WC.skip (via_ hK6 (WC.seq fun K10 hK10 => ?_)))
 refine sr_ fun _ hK11 => ?_
 refine ad_ hK11 ?_
 refine WC.block ?_
 obtain ⟨G12, hG13, oc14, H, Ho15⟩ := open_G H
 let J17 := fun (i16 : Int) (E_ : Env) (W_ : World) => E_ = [(2, .pointer (some ⟨b2, 0, none⟩)), (3, .pointer (some ⟨b4, 0, none⟩)), (5, vi i16)] ∧ St (fun _ => True) w W_ [boxM b4 #[.slice A1_0 x1.f0.length c1_0, .slice A1_1 x1.f1.length c1_1] 62, boxM b2 #[.slice A0_0 x0.f0.length c0_0, .slice A0_1 x0.f1.length c0_1] 62] [(cF kS149 A0_0 x0.f0), (cF kS149 A0_1 x0.f1), (cF kS149 A1_0 x1.f0), (cF kS149 A1_1 x1.f1)] []
 have X18 : ∀ E_ W_, (∃ i16, G12 (Sum.inr i16) = some r ∧ J17 i16 E_ W_) → ∀ a, Fits a 61 E_ → K10 a W_ := by
   rintro E_ w19 ⟨i16, H, rfl, HS⟩
   rw [hG13] at H
   (try dsimp only at H)
   refine hK10 _ _ ?_
   refine WC.seq fun K20 hK20 => ?_
   refine sr_ fun _ hK21 => ?_
   refine ad_ hK21 ?_
   refine WC.block ?_
   obtain ⟨G22, hG23, oc24, H, Ho25⟩ := open_G H
   let J27 := fun (i26 : Int) (E_ : Env) (W_ : World) => E_ = [(2, .pointer (some ⟨b2, 0, none⟩)), (3, .pointer (some ⟨b4, 0, none⟩)), (6, vi i26)] ∧ St (fun _ => True) w W_ [boxM b4 #[.slice A1_0 x1.f0.length c1_0, .slice A1_1 x1.f1.length c1_1] 62, boxM b2 #[.slice A0_0 x0.f0.length c0_0, .slice A0_1 x0.f1.length c0_1] 62] [(cF kS149 A0_0 x0.f0), (cF kS149 A0_1 x0.f1), (cF kS149 A1_0 x1.f0), (cF kS149 A1_1 x1.f1)] []
   have X28 : ∀ E_ W_, (∃ i26, G22 (Sum.inr i26) = some r ∧ J27 i26 E_ W_) → ∀ a, Fits a 61 E_ → K20 a W_ := by
     rintro E_ w29 ⟨i26, H, rfl, HS⟩
     rw [hG23] at H
     (try dsimp only at H)
     refine hK20 _ _ ?_
     refine sr_ fun _ hK30 => ?_
     refine ad_ hK30 ?_
     obtain rfl := os H
     exact rt1 Try.f51 rfl rfl hR_ ⟨rfl, HS.b⟩
   clear hK20
   refine WC.loop (fun k_ E_ W_ => ∃ i26, (∃ o_, laws_sameCell.l0 x0 x1 k_ i26 = some o_ ∧ G22 o_ = some r) ∧ J27 i26 E_ W_) k ⟨0, ⟨_, H, Ho25⟩, rfl, HS⟩ (sb rfl) ?_
   rintro k_ E_ w32 ⟨i26, ⟨oc24, H, Ho25⟩, rfl, HS⟩
   rcases k_ with _ | k33
   · exact no_ H
   replace H : laws_sameCell.b0 x0 x1 (laws_sameCell.l0 x0 x1 k33) k33 i26 = some oc24 := H
   unfold laws_sameCell.b0 at H
   refine WC.seq fun _ hK34 => ?_
   refine sr_ fun _ hK35 => ?_
   refine mv_ ?_
   refine v_ (fa_ underlying62) ?_
   refine v_ (lb_ (HS.mu 1 rfl) underlying60 rfl) ?_
   refine ln_ underlying60 ?_
   refine b_ bin_lss ?_
   refine dn_ hK35 ?_
   rcases eti_ H with ⟨c36, H⟩ | ⟨c36, H⟩
   · refine wn_ (dF c36) (WC.exit ?_)
     obtain rfl := os H
     exact wv_ iq X28 ⟨i26, Ho25, rfl, HS⟩
   refine wy_ (dT c36) (WC.skip (via_ hK34 (WC.seq fun _ hK37 => ?_)))
   refine WC.block (WC.seq fun _ hK38 => ?_)
   refine WC.drawS HS [] rfl rfl (fun w39 HS => ?_)
   have HB := Below.refl w39.heap.size w39
   have HSW := HS
   refine df_ 0 underlying62 ?_
   refine dm_ 2 ?_
   refine df_ 5 underlying62 ?_
   refine dm_ 7 ?_
   refine bl_ 1 HS (Below.refl _ _) 1 underlying60 rfl ?_
   obtain ⟨⟨q40, q41⟩, H⟩ := if_some H
   obtain ⟨ad42, rfl⟩ := C_open (HS.getO 1 rfl) (lenpos q40 q41)
   refine di_ 3 underlying60 1 q40 q41 ?_
   obtain ⟨A43, c44, le45, HS⟩ := HS.slO 1 rfl i26 q40 q41
   replace HSW := HS
   refine dt_ 4 (Below.refl _ _) (fun w_ hw_ => Run.load rfl rfl underlying133 rfl ((HS.below hw_).getO 1 rfl)) ?_
   refine bl_ 6 HS (Below.refl _ _) 0 underlying60 rfl ?_
   obtain ⟨⟨q46, q47⟩, H⟩ := if_some H
   obtain ⟨ad48, rfl⟩ := C_open (HS.getO 5 rfl) (lenpos q46 q47)
   refine di_ 8 underlying60 1 q46 q47 ?_
   obtain ⟨A49, c50, le51, HS⟩ := HS.slO 5 rfl i26 q46 q47
   replace HSW := HS
   refine dt_ 9 (Below.refl _ _) (fun w_ hw_ => Run.load rfl rfl underlying133 rfl ((HS.below hw_).getO 1 rfl)) ?_
   obtain ⟨t52, ha53, H⟩ := bind_some H
   refine dcs_ HS HB 10 (w_none rfl) func120 (laws_sameParts.runs k33 A43 c44 (x0.f1.getD i26.toNat []) A49 c50 (x1.f1.getD i26.toNat []) t52 _ (HS.getO 2 rfl) le45 (HS.getO 0 rfl) le51 ha53) (fun w54 HS HB => ?_)
   clear ha53
   refine dp_ 11 (fun _ => Run.not rfl rfl) ?_
   refine dd_ ?_
   clear HB HSW
   refine via_ hK38 ?_
   rcases ite_ H with ⟨c55, H⟩ | ⟨c55, H⟩
   · refine wn_ (nB c55) (WC.skip (via_ hK37 (rg_ (mv_ ?_))))
     refine b_ bin_add64 ?_
     refine as_ ?_
     refine WL.done ?_
     exact wr_ k33 iq ⟨(wrap64 (i26 + 1)), ⟨_, H, Ho25⟩, rfl, (St.pk HS [4, 5, 6, 7] [] rfl rfl)⟩
   refine wy_ (nB (bF c55)) (sr_ fun _ hK56 => ?_)
   refine ad_ hK56 ?_
   refine WC.ret ?_
   obtain rfl := os H
   rw [hG23] at Ho25
   replace H : some _ = some _ := Ho25
   obtain rfl := os H
   exact fin1 Try.f51 rfl rfl hR_ ⟨rfl, HS.b⟩
 clear hK10
 refine WC.loop (fun k_ E_ W_ => ∃ i16, (∃ o_, laws_sameCell.l1 x0 x1 k_ i16 = some o_ ∧ G12 o_ = some r) ∧ J17 i16 E_ W_) k ⟨0, ⟨_, H, Ho15⟩, rfl, HS⟩ (sb rfl) ?_
 rintro k_ E_ w58 ⟨i16, ⟨oc14, H, Ho15⟩, rfl, HS⟩
 rcases k_ with _ | k59
 · exact no_ H
 replace H : laws_sameCell.b1 x0 x1 (laws_sameCell.l1 x0 x1 k59) k59 i16 = some oc14 := H
 unfold laws_sameCell.b1 at H
 refine WC.seq fun _ hK60 => ?_
 refine sr_ fun _ hK61 => ?_
 refine mv_ ?_
 refine v_ (fa_ underlying62) ?_
 refine v_ (lb_ (HS.mu 1 rfl) underlying60 rfl) ?_
 refine ln_ underlying60 ?_
 refine b_ bin_lss ?_
 refine dn_ hK61 ?_
 rcases eti_ H with ⟨c62, H⟩ | ⟨c62, H⟩
 · refine wn_ (dF c62) (WC.exit ?_)
   obtain rfl := os H
   exact wv_ iq X18 ⟨i16, Ho15, rfl, HS⟩
 refine wy_ (dT c62) (WC.skip (via_ hK60 (WC.seq fun _ hK63 => ?_)))
 refine WC.block (WC.seq fun _ hK64 => ?_)
 refine WC.drawS HS [] rfl rfl (fun w65 HS => ?_)
 have HB := Below.refl w65.heap.size w65
 have HSW := HS
 refine df_ 0 underlying62 ?_
 refine dm_ 2 ?_
 refine df_ 5 underlying62 ?_
 refine dm_ 7 ?_
 refine bl_ 1 HS (Below.refl _ _) 1 underlying60 rfl ?_
 obtain ⟨⟨q66, q67⟩, H⟩ := if_some H
 obtain ⟨ad68, rfl⟩ := C_open (HS.getO 0 rfl) (lenpos q66 q67)
 refine di_ 3 underlying60 1 q66 q67 ?_
 obtain ⟨A69, c70, le71, HS⟩ := HS.slO 0 rfl i16 q66 q67
 replace HSW := HS
 refine dt_ 4 (Below.refl _ _) (fun w_ hw_ => Run.load rfl rfl underlying133 rfl ((HS.below hw_).getO 1 rfl)) ?_
 refine bl_ 6 HS (Below.refl _ _) 0 underlying60 rfl ?_
 obtain ⟨⟨q72, q73⟩, H⟩ := if_some H
 obtain ⟨ad74, rfl⟩ := C_open (HS.getO 4 rfl) (lenpos q72 q73)
 refine di_ 8 underlying60 1 q72 q73 ?_
 obtain ⟨A75, c76, le77, HS⟩ := HS.slO 4 rfl i16 q72 q73
 replace HSW := HS
 refine dt_ 9 (Below.refl _ _) (fun w_ hw_ => Run.load rfl rfl underlying133 rfl ((HS.below hw_).getO 1 rfl)) ?_
 obtain ⟨t78, ha79, H⟩ := bind_some H
 refine dcs_ HS HB 10 (w_none rfl) func120 (laws_sameParts.runs k59 A69 c70 (x0.f0.getD i16.toNat []) A75 c76 (x1.f0.getD i16.toNat []) t78 _ (HS.getO 2 rfl) le71 (HS.getO 0 rfl) le77 ha79) (fun w80 HS HB => ?_)
 clear ha79
 refine dp_ 11 (fun _ => Run.not rfl rfl) ?_
 refine dd_ ?_
 clear HB HSW
 refine via_ hK64 ?_
 rcases ite_ H with ⟨c81, H⟩ | ⟨c81, H⟩
 · refine wn_ (nB c81) (WC.skip (via_ hK63 (rg_ (mv_ ?_))))
   refine b_ bin_add64 ?_
   refine as_ ?_
   refine WL.done ?_
   exact wr_ k59 iq ⟨(wrap64 (i16 + 1)), ⟨_, H, Ho15⟩, rfl, (St.pk HS [4, 5, 6, 7] [] rfl rfl)⟩
 refine wy_ (nB (bF c81)) (sr_ fun _ hK82 => ?_)
 refine ad_ hK82 ?_
 refine WC.ret ?_
 obtain rfl := os H
 rw [hG13] at Ho15
 replace H : some _ = some _ := Ho15
 obtain rfl := os H
 exact fin1 Try.f51 rfl rfl hR_ ⟨rfl, HS.b⟩
def laws_sameCells.b0 (l0 : List S62) (l1 : List S62) (rec_ : Int → Option (Bool ⊕ Int)) (k18 : Nat) (i11 : Int) : Option (Bool ⊕ Int) := (if i11 < (l0.length : Int) then (if 0 ≤ i11 ∧ i11 < (l0.length : Int) then (if 0 ≤ i11 ∧ i11 < (l1.length : Int) then ((laws_sameCell.g k18 (l0.getD i11.toNat o62) (l1.getD i11.toNat o62)).bind fun t51 => (if t51 = true then (rec_ (wrap64 (i11 + 1))) else (some (Sum.inl false)))) else none) else none) else (some (Sum.inr i11)))
def laws_sameCells.l0 (l0 : List S62) (l1 : List S62) : Nat → Int → Option (Bool ⊕ Int)
 | 0, _ => none
 | k + 1, i11 => laws_sameCells.b0 l0 l1 (laws_sameCells.l0 l0 l1 k) k i11
def laws_sameCells.g (k : Nat) (l0 : List S62) (l1 : List S62) : Option Bool := (if (l0.length : Int) = (l1.length : Int) then ((laws_sameCells.l0 l0 l1 k 0).bind (fun oc16 => match oc16 with | .inl r_ => some r_ | .inr i11 => (some true))) else (some false))
theorem laws_sameCells.runs (k : Nat) (A0 : Option Addr) (c0 : Nat) (l0 : List S62) (A1 : Option Addr) (c1 : Nat) (l1 : List S62) (r : Bool) (w : World) (hr0 : k62.C w A0 l0.length l0) (hc0 : l0.length ≤ c0) (hr1 : k62.C w A1 l1.length l1) (hc1 : l1.length ≤ c1) (H : laws_sameCells.g k l0 l1 = some r) :
   Calls prog 50 #[.slice A0 l0.length c0, .slice A1 l1.length c1] w fun e w' => e = .returned (.bool r) ∧ Below w.heap.size w w' := by
 unfold laws_sameCells.g at H
 have HS : St (fun _ => True) w w [] [(cF k62 A0 l0), (cF k62 A1 l1)] [] := St.start (foot_cons (foot_C h62 hr0) (foot_cons (foot_C h62 hr1) foot_nil))
 refine cw_ (n := 27) func50 fun R_ hR_ => ?_
 refine sr_ fun _ hK1 => ?_
 refine ad_ hK1 ?_
 refine WC.seq fun _ hK2 => ?_
 refine sr_ fun _ hK3 => ?_
 refine mv_ ?_
 refine ln_ underlying71 ?_
 refine mv_ ?_
 refine ln_ underlying71 ?_
 refine b_ bin_neq ?_
 refine dn_ hK3 ?_
 rcases eti_ H with ⟨c4, H⟩ | ⟨c4, H⟩
 · refine wy_ (qT c4) (sr_ fun _ hK56 => ?_)
   refine ad_ hK56 ?_
   obtain rfl := os H
   exact rt1 Try.f50 rfl rfl hR_ ⟨rfl, HS.b⟩
 refine wn_ (qF c4) (WC.skip (via_ hK2 (WC.seq fun K5 hK5 => ?_)))
 refine sr_ fun _ hK6 => ?_
 refine ad_ hK6 ?_
 refine WC.block ?_
 obtain ⟨G7, hG8, oc9, H, Ho10⟩ := open_G H
 let J12 := fun (i11 : Int) (E_ : Env) (W_ : World) => E_ = [(0, .slice A0 l0.length c0), (1, .slice A1 l1.length c1), (5, vi i11)] ∧ St (fun _ => True) w W_ [] [(cF k62 A0 l0), (cF k62 A1 l1)] []
 have X13 : ∀ E_ W_, (∃ i11, G7 (Sum.inr i11) = some r ∧ J12 i11 E_ W_) → ∀ a, Fits a 27 E_ → K5 a W_ := by
   rintro E_ w14 ⟨i11, H, rfl, HS⟩
   rw [hG8] at H
   (try dsimp only at H)
   refine hK5 _ _ ?_
   refine sr_ fun _ hK15 => ?_
   refine ad_ hK15 ?_
   obtain rfl := os H
   exact rt1 Try.f50 rfl rfl hR_ ⟨rfl, HS.b⟩
 clear hK5
 refine WC.loop (fun k_ E_ W_ => ∃ i11, (∃ o_, laws_sameCells.l0 l0 l1 k_ i11 = some o_ ∧ G7 o_ = some r) ∧ J12 i11 E_ W_) k ⟨0, ⟨_, H, Ho10⟩, rfl, HS⟩ (sb rfl) ?_
 rintro k_ E_ w17 ⟨i11, ⟨oc9, H, Ho10⟩, rfl, HS⟩
 rcases k_ with _ | k18
 · exact no_ H
 replace H : laws_sameCells.b0 l0 l1 (laws_sameCells.l0 l0 l1 k18) k18 i11 = some oc9 := H
 unfold laws_sameCells.b0 at H
 refine WC.seq fun _ hK19 => ?_
 refine sr_ fun _ hK20 => ?_
 refine mv_ ?_
 refine mv_ ?_
 refine ln_ underlying71 ?_
 refine b_ bin_lss ?_
 refine dn_ hK20 ?_
 rcases eti_ H with ⟨c21, H⟩ | ⟨c21, H⟩
 · refine wn_ (dF c21) (WC.exit ?_)
   obtain rfl := os H
   exact wv_ iq X13 ⟨i11, Ho10, rfl, HS⟩
 refine wy_ (dT c21) (WC.skip (via_ hK19 (WC.seq fun _ hK22 => ?_)))
 refine WC.block (WC.seq fun _ hK23 => ?_)
 refine WC.drawS HS [] rfl rfl (fun w24 HS => ?_)
 have HB := Below.refl w24.heap.size w24
 have HSW := HS
 refine dm_ 0 ?_
 refine dm_ 1 ?_
 obtain ⟨⟨q25, q26⟩, H⟩ := if_some H
 obtain ⟨ad27, rfl⟩ := C_open (HS.getO 0 rfl) (lenpos q25 q26)
 refine di_ 2 underlying71 2 q25 q26 ?_
 refine dm_ 4 ?_
 refine dm_ 5 ?_
 obtain ⟨⟨q28, q29⟩, H⟩ := if_some H
 obtain ⟨ad30, rfl⟩ := C_open (HS.getO 1 rfl) (lenpos q28 q29)
 refine di_ 6 underlying71 2 q28 q29 ?_
 obtain ⟨e31, el32, HS⟩ := HS.elO 0 rfl (by decide) o62 i11 q25 q26
 replace HSW := HS
 obtain ⟨A33, c34, hc35, le36, HS⟩ := HS.eO 0 rfl at62_0
 obtain ⟨A37, c38, hc39, le40, HS⟩ := HS.eO 1 rfl at62_1
 refine dt_ 3 (Below.refl _ _) (fun w_ hw_ => Run.loadS (cs := [.slice A33 ((l0.getD i11.toNat o62).f0.length) c34, .slice A37 ((l0.getD i11.toNat o62).f1.length) c38]) rfl rfl underlying62 rfl (by kernel_rfl) (cells_part ((HS.below hw_).getO 2 rfl).2 (part_cons hc35 (part_cons hc39 part_nil)))) ?_
 obtain ⟨e41, el42, HS⟩ := HS.elO 4 rfl (by decide) o62 i11 q28 q29
 replace HSW := HS
 obtain ⟨A43, c44, hc45, le46, HS⟩ := HS.eO 0 rfl at62_0
 obtain ⟨A47, c48, hc49, le50, HS⟩ := HS.eO 1 rfl at62_1
 refine dt_ 7 (Below.refl _ _) (fun w_ hw_ => Run.loadS (cs := [.slice A43 ((l1.getD i11.toNat o62).f0.length) c44, .slice A47 ((l1.getD i11.toNat o62).f1.length) c48]) rfl rfl underlying62 rfl (by kernel_rfl) (cells_part ((HS.below hw_).getO 2 rfl).2 (part_cons hc45 (part_cons hc49 part_nil)))) ?_
 obtain ⟨t51, ha52, H⟩ := bind_some H
 refine dcs_ HS HB 8 (w_none rfl) func51 (laws_sameCell.runs k18 (l0.getD i11.toNat o62) A33 c34 A37 c38 (l1.getD i11.toNat o62) A43 c44 A47 c48 t51 _ (HS.getO 4 rfl) le36 (HS.getO 3 rfl) le40 (HS.getO 1 rfl) le46 (HS.getO 0 rfl) le50 ha52) (fun w53 HS HB => ?_)
 clear ha52
 refine dp_ 9 (fun _ => Run.not rfl rfl) ?_
 refine dd_ ?_
 clear HB HSW
 refine via_ hK23 ?_
 rcases ite_ H with ⟨c54, H⟩ | ⟨c54, H⟩
 · refine wn_ (nB c54) (WC.skip (via_ hK22 (rg_ (mv_ ?_))))
   refine b_ bin_add64 ?_
   refine as_ ?_
   refine WL.done ?_
   exact wr_ k18 iq ⟨(wrap64 (i11 + 1)), ⟨_, H, Ho10⟩, rfl, (St.pk HS [6, 7] [] rfl rfl)⟩
 refine wy_ (nB (bF c54)) (sr_ fun _ hK55 => ?_)
 refine ad_ hK55 ?_
 refine WC.ret ?_
 obtain rfl := os H
 rw [hG8] at Ho10
 replace H : some _ = some _ := Ho10
 obtain rfl := os H
 exact fin1 Try.f50 rfl rfl hR_ ⟨rfl, HS.b⟩
end Go.Proofs.Ytlpginalgdbopaa.PFnBlocks
