/- Functions that the statement reaches, as Lean functions, and the proof that a call of each comes to just its answer; written by this claim's own program. No conditions. -/
import Derived.Test.YtacbkcofcbglhaaGFnBudget1
namespace Go.Proofs.Ytacbkcofcbglhaa.PFnBudget
open Go.RowKit Go.Proofs.YtacbkcofcbglhaaW.PrintWords Go.Proofs.YtacbkcofcbglhaaW.PrintLast Go.Proofs.YtacbkcofcbglhaaW.PrintMore Go.Proofs.Ytacbkcofcbglhaa.XW Go.Proofs.Ytacbkcofcbglhaa.XOp Go.Proofs.Ytacbkcofcbglhaa.XSt Go.Proofs.Ytacbkcofcbglhaa.XDraw
set_option linter.unusedVariables false
set_option linter.unusedSimpArgs false
set_option maxHeartbeats 4000000
set_option maxRecDepth 20000
def spec_DrawRightModel.b0 (l0 : List Int) (t12 : S39 × S140) (rec_ : (List Int) → Int → Int → Int → Option ((List Int) × Int × Int × Int)) (k45 : Nat) (xs30 : List Int) (i33 : Int) (i34 : Int) (i35 : Int) : Option ((List Int) × Int × Int × Int) := ((spec_l01Below.g k45 (⟨l0, i34, i35⟩ : S140) 6).bind fun t48 => (if i33 < (wrap64 (1 + t48.1)) then (if i33 < t12.1.f2 then ((spec_Vocab.g k45 t12.1).bind fun t54 => ((spec_l01Below.g k45 (⟨l0, t48.2.f1, t48.2.f2⟩ : S140) t54).bind fun t57 => (if (xs30.length) < 4294967296 then (rec_ (xs30 ++ [t57.1]) (wrap64 (i33 + 1)) t57.2.f1 t57.2.f2) else none))) else (some (xs30, i33, t48.2.f1, t48.2.f2))) else (some (xs30, i33, t48.2.f1, t48.2.f2))))
def spec_DrawRightModel.l0 (l0 : List Int) (t12 : S39 × S140) : Nat → (List Int) → Int → Int → Int → Option ((List Int) × Int × Int × Int)
  | 0, _, _, _, _ => none
  | k + 1, xs30, i33, i34, i35 => spec_DrawRightModel.b0 l0 t12 (spec_DrawRightModel.l0 l0 t12 k) k xs30 i33 i34 i35
def spec_DrawRightModel.g (k : Nat) (l0 : List Int) : Option (S39 × (List Int)) := ((spec_l01New.g k l0).bind fun t5 => ((spec_l10Right.g k (⟨l0, t5.f1, t5.f2⟩ : S140)).bind fun t12 => ((spec_DrawRightModel.l0 l0 t12 k ([] : List Int) 0 t12.2.f1 t12.2.f2).bind (fun o43 => (some (t12.1, o43.1))))))
theorem spec_DrawRightModel.runs (k : Nat) (A0 : Option Addr) (c0 : Nat) (l0 : List Int) (r1 : S39) (r2 : List Int) (w : World) (hr0 : (Kd.int .u8).C w A0 l0.length l0) (hc0 : l0.length ≤ c0) (H : spec_DrawRightModel.g k l0 = some (r1, r2)) :
    Calls Try.prog 27 #[.slice A0 l0.length c0] w fun e w' => ∃ (cs0_ : List Value) (A1_ : Option Addr) (c1_ : Nat), e = .returned (.tuple #[.agg cs0_.toArray, .slice A1_ r2.length c1_]) ∧ Foot (fun W => k39.K W r1 cs0_) w' (fun k_ => w.heap.size ≤ k_) ∧ r2.length ≤ c1_ ∧ Foot (fun W => (Kd.int .i64).C W A1_ r2.length r2) w' (fun k_ => w.heap.size ≤ k_) ∧ Below w.heap.size w w' := by
  unfold spec_DrawRightModel.g at H
  have HS : St (fun _ => True) w w [] [(fun W => (Kd.int .u8).C W A0 l0.length l0)] [] := St.start (foot_cons (foot_C (Kd.heap_int _) hr0) foot_nil)
  refine cw_ (n := 35) Try.func27 fun R_ hR_ => ?_
  refine sr_ fun _ hK1 => ?_
  refine WL.alloc HS (v := .agg #[.int .i64 0, .int .i64 0, .int .i64 0, .slice none 0 0, .slice none 0 0, .slice none 0 0, .slice none 0 0, .int .i64 0, .slice none 0 0, .slice none 0 0, .int .i64 0, .int .i64 0, .slice none 0 0, .slice none 0 0]) (cs := #[.int .i64 0, .int .i64 0, .int .i64 0, .slice none 0 0, .slice none 0 0, .slice none 0 0, .slice none 0 0, .int .i64 0, .slice none 0 0, .slice none 0 0, .int .i64 0, .int .i64 0, .slice none 0 0, .slice none 0 0]) rfl rfl (by decide) rfl (by kernel_rfl) rfl (fun b2 w3 hb2 HS => ?_)
  refine as_ ?_
  exact by (
  refine dn_ hK1 ?_
  clear hK1
  refine sr_ fun _ hK4 => ?_
  refine mv_ ?_
  obtain ⟨t5, ha6, H⟩ := bind_some H
  refine c_ Try.func78 (spec_l01New.runs k A0 c0 l0 t5 _ (HS.getO 0 rfl) hc0 ha6) ?_
  exact by (
  clear ha6
  rintro _ w7 ⟨b8, rfl, hn9, hx10, hb⟩
  replace HS := HS.gotBox hb hn9 hx10
  refine ⟨_, rfl, ?_⟩
  clear hb
  refine as_ ?_
  exact by (
  refine dn_ hK4 ?_
  clear hK4
  refine sr_ fun _ hK11 => ?_
  refine mv_ ?_
  obtain ⟨t12, ha13, H⟩ := bind_some H
  refine c_ Try.func79 (spec_l10Right.runs k b8 (⟨l0, t5.f1, t5.f2⟩ : S140) A0 c0 _ t12.1 t12.2 _ _ HS.b (HS.nodupM 0 rfl) (HS.boundM 0 rfl) (HS.footOM 0 rfl 0 rfl) hc0 (HS.mu 0 rfl) ha13) ?_
  exact by (
  clear ha13
  rintro _ w14 ⟨cs15, rfl, hf16, hbx_, hrest_, hB1_⟩
  replace HS := HS.newM 0 rfl hB1_ hrest_ hbx_ (foot_cons hf16 foot_nil)
  dsimp only [List.set] at HS
  have el17 : cs15.length = 14 := k39.K_len (Foot.now hf16)
  clear hB1_ hrest_ hbx_
  exact by (
  refine ⟨_, rfl, ?_⟩
  refine WL.alloc HS (v := .agg #[.int .i64 0, .int .i64 0, .int .i64 0, .slice none 0 0, .slice none 0 0, .slice none 0 0, .slice none 0 0, .int .i64 0, .slice none 0 0, .slice none 0 0, .int .i64 0, .int .i64 0, .slice none 0 0, .slice none 0 0]) (cs := #[.int .i64 0, .int .i64 0, .int .i64 0, .slice none 0 0, .slice none 0 0, .slice none 0 0, .slice none 0 0, .int .i64 0, .slice none 0 0, .slice none 0 0, .int .i64 0, .int .i64 0, .slice none 0 0, .slice none 0 0]) rfl rfl (by decide) rfl (by kernel_rfl) rfl (fun b18 w19 hb18 HS => ?_)
  refine WL.storeS HS 0 rfl rfl rfl rfl rfl rfl (Kd.K_one _ (HS.getN 0 rfl)) (by rw [el17]; kernel_rfl) (by rw [el17]; decide) (splice_all (by rw [el17]; rfl)) (fun w20 HS => ?_)
  dsimp only [List.set] at HS
  refine dn_ hK11 ?_
  clear hK11
  exact by (
  refine sr_ fun _ hK21 => ?_
  refine WL.lit0 HS rfl rfl (by decide) rfl Try.underlying25 (sz := 1) (by kernel_rfl) (fun v22 w23 HS => ?_)
  replace HS := HS.deriveN (p := (fun W => Reps ((Kd.int .i64).K W) (Kd.int .i64).sz ([] : List Int) [])) (fun _ _ => Reps.none _ _)
  refine as_ ?_
  refine dn_ hK21 ?_
  clear hK21
  exact by (
  refine WC.seq fun K24 hK24 => ?_
  refine sr_ fun _ hK25 => ?_
  refine as_ ?_
  refine dn_ hK25 ?_
  clear hK25
  refine WC.block ?_
  exact by (
  obtain ⟨G26, hG27, o28, H, Ho29⟩ := open_G H
  have X36 : ∀ E_ W_, (∃ (xs30 : List Int) (v31 : Value) (I32 : List Value) (i33 : Int) (i34 : Int) (i35 : Int), E_ = [(2, .pointer (some ⟨b2, 0, none⟩)), (4, .pointer (some ⟨b8, 0, none⟩)), (5, .pointer (some ⟨b18, 0, none⟩)), (6, v31), (7, .int .i64 i33)] ∧ G26 (xs30, i33, i34, i35) = some (r1, r2) ∧ St (fun _ => True) w W_ [rowM w.heap.size 3 1 v31 xs30.length I32, boxM b18 cs15.toArray 39, boxM b8 #[.slice A0 l0.length c0, .int .i64 i34, .int .i64 i35] 140, boxM b2 #[.int .i64 0, .int .i64 0, .int .i64 0, .slice none 0 0, .slice none 0 0, .slice none 0 0, .slice none 0 0, .int .i64 0, .slice none 0 0, .slice none 0 0, .int .i64 0, .int .i64 0, .slice none 0 0, .slice none 0 0] 39] [(fun W => (Kd.int .u8).C W A0 l0.length l0)] [(fun W => Reps ((Kd.int .i64).K W) (Kd.int .i64).sz xs30 I32), (fun W => k39.K W t12.1 cs15)]) → ∀ a, Fits a 35 E_ → K24 a W_ := by
    rintro E_ w37 ⟨xs30, v31, I32, i33, i34, i35, rfl, H, HS⟩
    rw [hG27] at H
    (try dsimp only at H)
    refine hK24 _ _ ?_
    exact by (
    clear hK24
    refine sr_ fun _ hK38 => ?_
    refine v_ (Run.loadS (cs := cs15) rfl rfl Try.underlying39 rfl (by rw [el17]; kernel_rfl) (box_part (HS.mu 1 rfl) part_all)) ?_
    refine mv_ ?_
    refine WL.storeS HS 3 rfl rfl rfl rfl rfl rfl (Kd.K_one _ (HS.getN 1 rfl)) (by rw [el17]; kernel_rfl) (by rw [el17]; decide) (splice_all (by rw [el17]; rfl)) (fun w39 HS => ?_)
    dsimp only [List.set] at HS
    exact by (
    refine as_ ?_
    refine dn_ hK38 ?_
    clear hK38
    refine WC.ret ?_
    obtain ⟨A40, c41, rfl⟩ := row_slice (HS.mu 0 rfl)
    have le42 := row_le (HS.mu 0 rfl)
    exact by (
    replace HS := HS.freezeN 0 (p := (fun W => (Kd.int .i64).C W A40 (xs30).length (xs30))) rfl (fun W_ hm_ h_ => row_C (by rfl) hm_ (AllF.get 0 rfl h_))
    dsimp only [List.eraseIdx] at HS
    obtain ⟨rfl, rfl⟩ := Prod.mk.inj (os H)
    exact fin2 Try.f27 rfl ⟨_, rfl, resv_box (HS.mu 2 rfl) Try.underlying39 rfl (by rw [el17]; kernel_rfl)⟩ rfl hR_ ⟨_, _, _, rfl, (foot_fresh (HS.footN 2 rfl)), le42, (foot_fresh (HS.footN 0 rfl)), HS.b⟩ )))
  clear hK24
  refine WC.loop (fun k_ E_ W_ => ∃ (xs30 : List Int) (v31 : Value) (I32 : List Value) (i33 : Int) (i34 : Int) (i35 : Int), E_ = [(2, .pointer (some ⟨b2, 0, none⟩)), (4, .pointer (some ⟨b8, 0, none⟩)), (5, .pointer (some ⟨b18, 0, none⟩)), (6, v31), (7, .int .i64 i33)] ∧ (∃ o_, spec_DrawRightModel.l0 l0 t12 k_ xs30 i33 i34 i35 = some o_ ∧ G26 o_ = some (r1, r2)) ∧ St (fun _ => True) w W_ [rowM w.heap.size 3 1 v31 xs30.length I32, boxM b18 cs15.toArray 39, boxM b8 #[.slice A0 l0.length c0, .int .i64 i34, .int .i64 i35] 140, boxM b2 #[.int .i64 0, .int .i64 0, .int .i64 0, .slice none 0 0, .slice none 0 0, .slice none 0 0, .slice none 0 0, .int .i64 0, .slice none 0 0, .slice none 0 0, .int .i64 0, .int .i64 0, .slice none 0 0, .slice none 0 0] 39] [(fun W => (Kd.int .u8).C W A0 l0.length l0)] [(fun W => Reps ((Kd.int .i64).K W) (Kd.int .i64).sz xs30 I32), (fun W => k39.K W t12.1 cs15)]) k ⟨([] : List Int), v22, ([]), 0, t12.2.f1, t12.2.f2, rfl, ⟨_, H, Ho29⟩, (St.pick HS (fun W_ h_ => ⟨AllF.get 0 rfl h_, trivial⟩) (fun W_ h_ => ⟨AllF.get 0 rfl h_, AllF.get 1 rfl h_, trivial⟩))⟩ ⟨rfl, rfl, rfl, rfl, rfl, trivial⟩ ?_
  exact by (
  rintro k_ E_ w44 ⟨xs30, v31, I32, i33, i34, i35, rfl, ⟨o28, H, Ho29⟩, HS⟩
  rcases k_ with _ | k45
  · exact no_ H
  replace H : spec_DrawRightModel.b0 l0 t12 (spec_DrawRightModel.l0 l0 t12 k45) k45 xs30 i33 i34 i35 = some o28 := H
  unfold spec_DrawRightModel.b0 at H
  refine WC.seq fun _ hK46 => ?_
  exact by (
  refine sr_ fun _ hK47 => ?_
  refine mv_ ?_
  refine mv_ ?_
  obtain ⟨t48, ha49, H⟩ := bind_some H
  refine c_ Try.func80 (spec_l01Below.runs k45 b8 (⟨l0, i34, i35⟩ : S140) A0 c0 6 _ t48.1 t48.2 _ _ HS.b (HS.nodupM 2 rfl) (HS.boundM 2 rfl) (HS.footOM 2 rfl 0 rfl) hc0 (HS.mu 2 rfl) ha49) ?_
  clear ha49
  exact by (
  rintro _ w50 ⟨rfl, hbx_, hrest_, hB1_⟩
  replace HS := HS.calledM 2 rfl hB1_ hrest_ hbx_
  dsimp only [List.set] at HS
  clear hB1_ hrest_ hbx_
  refine ⟨_, rfl, ?_⟩
  refine b_ bin_add64 ?_
  exact by (
  refine b_ bin_lss ?_
  refine mv_ ?_
  rcases eti_ H with ⟨c51, H⟩ | ⟨c51, H⟩
  · refine off_ (c' := false) (dF c51) ?_
    refine WL.know 18 (dF c51) ?_
    refine fast_ ?_
    exact by (
    refine via_ hK47 ?_
    clear hK47
    refine wn_ rfl ?_
    refine WC.exit ?_
    obtain rfl := os H
    exact WQ.via2 (fun _ _ h_ => h_) X36 ⟨xs30, v31, I32, i33, t48.2.f1, t48.2.f2, rfl, Ho29, (St.pick HS (fun W_ h_ => ⟨AllF.get 0 rfl h_, trivial⟩) (fun W_ h_ => ⟨AllF.get 0 rfl h_, AllF.get 1 rfl h_, trivial⟩))⟩ ⟨rfl, rfl, rfl, rfl, rfl, trivial⟩ )
  exact by (
  refine on_ (dT c51) ?_
  refine mv_ ?_
  refine on_ (dT c51) ?_
  refine v_ (fa_ Try.underlying39) ?_
  refine on_ (dT c51) ?_
  refine v_ (lb_ (HS.mu 1 rfl) Try.underlying3 (at39_2 (HS.aN 1 rfl)).int) ?_
  exact by (
  refine on_ (dT c51) ?_
  refine b_ bin_lss ?_
  refine v_ (Run.pickT rfl rfl (dT c51) rfl) ?_
  refine dn_ hK47 ?_
  clear hK47
  rcases eti_ H with ⟨c52, H⟩ | ⟨c52, H⟩
  · refine wn_ (dF c52) ?_
    exact by (
    refine WC.exit ?_
    obtain rfl := os H
    exact WQ.via2 (fun _ _ h_ => h_) X36 ⟨xs30, v31, I32, i33, t48.2.f1, t48.2.f2, rfl, Ho29, (St.pick HS (fun W_ h_ => ⟨AllF.get 0 rfl h_, trivial⟩) (fun W_ h_ => ⟨AllF.get 0 rfl h_, AllF.get 1 rfl h_, trivial⟩))⟩ ⟨rfl, rfl, rfl, rfl, rfl, trivial⟩ )
  refine wy_ (dT c52) ?_
  refine WC.skip ?_
  refine via_ hK46 ?_
  exact by (
  clear hK46
  refine WC.seq fun _ hK53 => ?_
  refine WC.block ?_
  refine rg_ ?_
  refine mv_ ?_
  refine mv_ ?_
  exact by (
  refine v_ (Run.loadS (cs := cs15) rfl rfl Try.underlying39 rfl (by rw [el17]; kernel_rfl) (box_part (HS.mu 1 rfl) part_all)) ?_
  obtain ⟨t54, ha55, H⟩ := bind_some H
  refine cs_ HS Try.func15 (spec_Vocab.runs k45 cs15 t12.1 t54 _ (HS.getN 1 rfl) ha55) (fun w56 HS => ?_)
  clear ha55
  obtain ⟨t57, ha58, H⟩ := bind_some H
  refine c_ Try.func80 (spec_l01Below.runs k45 b8 (⟨l0, t48.2.f1, t48.2.f2⟩ : S140) A0 c0 t54 _ t57.1 t57.2 _ _ HS.b (HS.nodupM 2 rfl) (HS.boundM 2 rfl) (HS.footOM 2 rfl 0 rfl) hc0 (HS.mu 2 rfl) ha58) ?_
  exact by (
  clear ha58
  rintro _ w59 ⟨rfl, hbx_, hrest_, hB1_⟩
  replace HS := HS.calledM 2 rfl hB1_ hrest_ hbx_
  dsimp only [List.set] at HS
  clear hB1_ hrest_ hbx_
  refine ⟨_, rfl, ?_⟩
  exact by (
  refine WL.val rfl rfl (by decide) (Run.lit1 (z := (.int .i64 0)) (vs := [.int .i64 t57.1]) rfl rfl rfl Try.underlying25 (by kernel_rfl) (Nat.le_of_ble_eq_true rfl) (Nat.le_of_ble_eq_true rfl)) ?_
  have HS1 := HS.below (below_alloc (Below.refl _ _) (.cells #[.int .i64 t57.1] 3))
  obtain ⟨q60, H⟩ := if_some H
  refine WL.append HS1 0 rfl rfl rfl (by decide) rfl (.int .i64 0) 8 Try.underlying25 (by kernel_rfl) rfl (by decide) (by decide) rfl rfl [.int .i64 t57.1] rfl (lit_news _ _ _) (one_cons rfl one_nil) (by omega) ((xs30 ++ [t57.1]).length) (by simp) (fun v61 w62 I63 hI64 HS => ?_)
  dsimp only [List.set] at HS
  replace HS := HS.deriveN (p := (fun W => Reps ((Kd.int .i64).K W) (Kd.int .i64).sz (xs30 ++ [t57.1]) I63)) (fun W_ hN_ => reps_snoc hI64 (AllF.get 0 rfl hN_) (K_int _))
  exact by (
  clear HS1
  refine as_ ?_
  refine dn_ hK53 ?_
  clear hK53
  refine rg_ ?_
  refine mv_ ?_
  exact by (
  refine b_ bin_add64 ?_
  refine as_ ?_
  refine WL.done ?_
  exact WQ.round k45 (fun _ _ h_ => h_) (Nat.lt_succ_self _) ⟨(xs30 ++ [t57.1]), v61, I63, (wrap64 (i33 + 1)), t57.2.f1, t57.2.f2, rfl, ⟨_, H, Ho29⟩, (St.pick HS (fun W_ h_ => ⟨AllF.get 0 rfl h_, trivial⟩) (fun W_ h_ => ⟨AllF.get 0 rfl h_, AllF.get 2 rfl h_, trivial⟩))⟩ ⟨rfl, rfl, rfl, rfl, rfl, trivial⟩ ))))))))))))))))))))
def impl_LayerOk.b0 (x0 : S48) (a1 : Int) (rec_ : Int → Option (Bool ⊕ Int)) (k99 : Nat) (i74 : Int) : Option (Bool ⊕ Int) := (if i74 < (4 : Int) then (if 0 ≤ i74 ∧ i74 < (4 : Int) then ((impl_withinBudget.f k99 ((([x0.f1, x0.f2, x0.f3, x0.f4]).getD i74.toNat o36).f0) ((([x0.f1, x0.f2, x0.f3, x0.f4]).getD i74.toNat o36).f1) ((([x0.f1, x0.f2, x0.f3, x0.f4]).getD i74.toNat o36).f2) ((([x0.f1, x0.f2, x0.f3, x0.f4]).getD i74.toNat o36).f3) ((([x0.f1, x0.f2, x0.f3, x0.f4]).getD i74.toNat o36).f4) a1 a1).bind fun t122 => (if t122 = true then (rec_ (wrap64 (i74 + 1))) else (some (Sum.inl false)))) else none) else (some (Sum.inr i74)))
def impl_LayerOk.l0 (x0 : S48) (a1 : Int) : Nat → Int → Option (Bool ⊕ Int)
  | 0, _ => none
  | k + 1, i74 => impl_LayerOk.b0 x0 a1 (impl_LayerOk.l0 x0 a1 k) k i74
def impl_LayerOk.g (k : Nat) (x0 : S48) (a1 : Int) : Option Bool := ((impl_GainOk.f x0.f0 a1).bind fun t15 => (if t15 = true then ((impl_GainOk.f x0.f5 a1).bind fun t23 => (if t23 = true then ((impl_isWidth.f (x0.f6.f1.length : Int)).bind fun t27 => (if t27 = true then ((impl_LayerOk.l0 x0 a1 k 0).bind (fun o97 => match o97 with | .inl r_ => some r_ | .inr i74 => ((impl_withinBudget.f k x0.f6.f0 x0.f6.f1 x0.f6.f2 x0.f6.f3 x0.f6.f4 a1 (x0.f6.f1.length : Int)).bind fun t82 => (if t82 = true then ((impl_withinBudget.f k x0.f7.f0 x0.f7.f1 x0.f7.f2 x0.f7.f3 x0.f7.f4 (x0.f6.f1.length : Int) a1).bind fun t94 => (some t94)) else (some false))))) else (some false))) else (some false))) else (some false)))
theorem impl_LayerOk.runs (k : Nat) (cs0 : List Value) (x0 : S48) (a1 : Int) (r : Bool) (w : World) (hk0 : k48.K w x0 cs0) (H : impl_LayerOk.g k x0 a1 = some r) :
    Calls Try.prog 22 #[.agg cs0.toArray, .int .i64 a1] w fun e w' => e = .returned (.bool r) ∧ Below w.heap.size w w' := by
  have el0 : cs0.length = 32 := k48.K_len hk0
  unfold impl_LayerOk.g at H
  have HS : St (fun _ => True) w w [] [(fun W => k48.K W x0 cs0)] [] := St.start (foot_cons (foot_K h48 hk0) foot_nil)
  refine cw_ (n := 61) Try.func22 fun R_ hR_ => ?_
  refine sr_ fun _ hK1 => ?_
  refine bo_ HS (fun b2 w3 hb2 HS => ?_)
  exact by (
  refine as_ ?_
  refine dn_ hK1 ?_
  clear hK1
  refine sr_ fun _ hK4 => ?_
  refine v_ (fa_ Try.underlying48) ?_
  refine v_ (fa_ Try.underlying36) ?_
  exact by (
  obtain ⟨A5, c6, hc7, le8, HS⟩ := HS.sO 0 rfl at48_23
  refine v_ (lb_ (HS.mu 0 rfl) Try.underlying23 hc7) ?_
  refine ln_ Try.underlying23 ?_
  refine as_ ?_
  refine dn_ hK4 ?_
  clear hK4
  exact by (
  refine WC.seq fun _ hK9 => ?_
  refine sr_ fun _ hK10 => ?_
  refine v_ (fa_ Try.underlying48) ?_
  obtain ⟨A11, c12, hc13, le14, HS⟩ := HS.sO 1 rfl at48_0
  refine v_ (lb_ (HS.mu 0 rfl) Try.underlying25 hc13) ?_
  refine mv_ ?_
  exact by (
  obtain ⟨t15, ha16, H⟩ := bind_some H
  refine cs_ HS Try.func28 (impl_GainOk.calls A11 c12 x0.f0 a1 t15 _ (HS.getO 0 rfl) le14 ha16) (fun w17 HS => ?_)
  clear ha16
  refine nt_ ?_
  refine mv_ ?_
  rcases eti_ H with ⟨c18, H⟩ | ⟨c18, H⟩
  · refine off_ (c' := true) (nB (bF c18)) ?_
    exact by (
    refine WL.know 17 (nB (bF c18)) ?_
    refine fast_ ?_
    refine via_ hK10 ?_
    clear hK10
    refine wy_ rfl ?_
    refine sr_ fun _ hK129 => ?_
    exact by (
    refine as_ ?_
    refine dn_ hK129 ?_
    clear hK129
    obtain rfl := os H
    exact rt1 Try.f22 rfl rfl hR_ ⟨rfl, HS.b⟩ ))
  refine on_ (nB c18) ?_
  exact by (
  refine v_ (fa_ Try.underlying48) ?_
  refine on_ (nB c18) ?_
  obtain ⟨A19, c20, hc21, le22, HS⟩ := HS.sO 2 rfl at48_21
  refine v_ (lb_ (HS.mu 0 rfl) Try.underlying25 hc21) ?_
  refine on_ (nB c18) ?_
  refine mv_ ?_
  exact by (
  refine on_ (nB c18) ?_
  obtain ⟨t23, ha24, H⟩ := bind_some H
  refine cs_ HS Try.func28 (impl_GainOk.calls A19 c20 x0.f5 a1 t23 _ (HS.getO 0 rfl) le22 ha24) (fun w25 HS => ?_)
  clear ha24
  refine on_ (nB c18) ?_
  refine nt_ ?_
  exact by (
  refine v_ (Run.pickF rfl rfl (nB c18) rfl) ?_
  refine mv_ ?_
  rcases eti_ H with ⟨c26, H⟩ | ⟨c26, H⟩
  · refine off_ (c' := true) (nB (bF c26)) ?_
    refine WL.know 24 (nB (bF c26)) ?_
    refine fast_ ?_
    exact by (
    refine via_ hK10 ?_
    clear hK10
    refine wy_ rfl ?_
    refine sr_ fun _ hK128 => ?_
    refine as_ ?_
    refine dn_ hK128 ?_
    exact by (
    clear hK128
    obtain rfl := os H
    exact rt1 Try.f22 rfl rfl hR_ ⟨rfl, HS.b⟩ ))
  refine on_ (nB c26) ?_
  refine mv_ ?_
  refine on_ (nB c26) ?_
  exact by (
  obtain ⟨t27, ha28, H⟩ := bind_some H
  refine cs0_ HS Try.func64 (impl_isWidth.calls (x0.f6.f1.length : Int) t27 _ ha28) (fun w29 HS => ?_)
  clear ha28
  refine on_ (nB c26) ?_
  refine nt_ ?_
  refine v_ (Run.pickF rfl rfl (nB c26) rfl) ?_
  exact by (
  refine dn_ hK10 ?_
  clear hK10
  rcases eti_ H with ⟨c30, H⟩ | ⟨c30, H⟩
  · refine wy_ (nB (bF c30)) ?_
    refine sr_ fun _ hK127 => ?_
    refine as_ ?_
    exact by (
    refine dn_ hK127 ?_
    clear hK127
    obtain rfl := os H
    exact rt1 Try.f22 rfl rfl hR_ ⟨rfl, HS.b⟩ )
  refine wn_ (nB c30) ?_
  refine WC.skip ?_
  exact by (
  refine via_ hK9 ?_
  clear hK9
  refine WC.seq fun K31 hK31 => ?_
  refine sr_ fun _ hK32 => ?_
  refine v_ (fa_ Try.underlying48) ?_
  obtain ⟨A33, c34, hc35, le36, HS⟩ := HS.sO 3 rfl at48_2
  exact by (
  obtain ⟨A37, c38, hc39, le40, HS⟩ := HS.sO 4 rfl at48_3
  refine v_ (ls_ (HS.mu 0 rfl) Try.underlying36 (part_cons (at48_1 (HS.aO 5 rfl)).int (part_cons hc35 (part_cons hc39 (part_cons (at48_4 (HS.aO 5 rfl)).int (part_cons (at48_5 (HS.aO 5 rfl)).int part_nil)))))) ?_
  refine v_ (fa_ Try.underlying48) ?_
  obtain ⟨A41, c42, hc43, le44, HS⟩ := HS.sO 5 rfl at48_7
  obtain ⟨A45, c46, hc47, le48, HS⟩ := HS.sO 6 rfl at48_8
  refine v_ (ls_ (HS.mu 0 rfl) Try.underlying36 (part_cons (at48_6 (HS.aO 7 rfl)).int (part_cons hc43 (part_cons hc47 (part_cons (at48_9 (HS.aO 7 rfl)).int (part_cons (at48_10 (HS.aO 7 rfl)).int part_nil)))))) ?_
  exact by (
  refine v_ (fa_ Try.underlying48) ?_
  obtain ⟨A49, c50, hc51, le52, HS⟩ := HS.sO 7 rfl at48_12
  obtain ⟨A53, c54, hc55, le56, HS⟩ := HS.sO 8 rfl at48_13
  refine v_ (ls_ (HS.mu 0 rfl) Try.underlying36 (part_cons (at48_11 (HS.aO 9 rfl)).int (part_cons hc51 (part_cons hc55 (part_cons (at48_14 (HS.aO 9 rfl)).int (part_cons (at48_15 (HS.aO 9 rfl)).int part_nil)))))) ?_
  refine v_ (fa_ Try.underlying48) ?_
  obtain ⟨A57, c58, hc59, le60, HS⟩ := HS.sO 9 rfl at48_17
  exact by (
  obtain ⟨A61, c62, hc63, le64, HS⟩ := HS.sO 10 rfl at48_18
  refine v_ (ls_ (HS.mu 0 rfl) Try.underlying36 (part_cons (at48_16 (HS.aO 11 rfl)).int (part_cons hc59 (part_cons hc63 (part_cons (at48_19 (HS.aO 11 rfl)).int (part_cons (at48_20 (HS.aO 11 rfl)).int part_nil)))))) ?_
  refine WL.litN HS (sz := 5) (z := (.agg #[.int .i64 0, .slice none 0 0, .slice none 0 0, .int .i64 0, .int .i64 0])) rfl rfl (by decide) rfl [[.int .i64 x0.f1.f0, .slice A33 x0.f1.f1.length c34, .slice A37 x0.f1.f2.length c38, .int .i64 x0.f1.f3, .int .i64 x0.f1.f4], [.int .i64 x0.f2.f0, .slice A41 x0.f2.f1.length c42, .slice A45 x0.f2.f2.length c46, .int .i64 x0.f2.f3, .int .i64 x0.f2.f4], [.int .i64 x0.f3.f0, .slice A49 x0.f3.f1.length c50, .slice A53 x0.f3.f2.length c54, .int .i64 x0.f3.f3, .int .i64 x0.f3.f4], [.int .i64 x0.f4.f0, .slice A57 x0.f4.f1.length c58, .slice A61 x0.f4.f2.length c62, .int .i64 x0.f4.f3, .int .i64 x0.f4.f4]] ⟨⟨rfl, _, rfl, rfl, rfl⟩, ⟨⟨rfl, _, rfl, rfl, rfl⟩, ⟨⟨rfl, _, rfl, rfl, rfl⟩, ⟨⟨rfl, _, rfl, rfl, rfl⟩, trivial⟩⟩⟩⟩ rfl Try.underlying87 (by kernel_rfl) (by decide) (by decide) (fun v65 w66 HS => ?_)
  replace HS := HS.deriveO (p := (fun W => Reps (k36.K W) k36.sz [x0.f1, x0.f2, x0.f3, x0.f4] (List.flatten [[.int .i64 x0.f1.f0, .slice A33 x0.f1.f1.length c34, .slice A37 x0.f1.f2.length c38, .int .i64 x0.f1.f3, .int .i64 x0.f1.f4], [.int .i64 x0.f2.f0, .slice A41 x0.f2.f1.length c42, .slice A45 x0.f2.f2.length c46, .int .i64 x0.f2.f3, .int .i64 x0.f2.f4], [.int .i64 x0.f3.f0, .slice A49 x0.f3.f1.length c50, .slice A53 x0.f3.f2.length c54, .int .i64 x0.f3.f3, .int .i64 x0.f3.f4], [.int .i64 x0.f4.f0, .slice A57 x0.f4.f1.length c58, .slice A61 x0.f4.f2.length c62, .int .i64 x0.f4.f3, .int .i64 x0.f4.f4]]))) (fun W_ hO_ hN_ => reps_lit ⟨(k36_mk _ x0.f1 (le36) (AllF.get 7 rfl hO_) (le40) (AllF.get 6 rfl hO_)), ⟨(k36_mk _ x0.f2 (le44) (AllF.get 5 rfl hO_) (le48) (AllF.get 4 rfl hO_)), ⟨(k36_mk _ x0.f3 (le52) (AllF.get 3 rfl hO_) (le56) (AllF.get 2 rfl hO_)), ⟨(k36_mk _ x0.f4 (le60) (AllF.get 1 rfl hO_) (le64) (AllF.get 0 rfl hO_)), trivial⟩⟩⟩⟩)
  obtain ⟨A67, c68, rfl⟩ := row_slice (HS.mu 0 rfl)
  refine ln_ Try.underlying87 ?_
  exact by (
  refine mv_ ?_
  refine dn_ hK32 ?_
  clear hK32
  refine WC.block ?_
  have le69 := row_le (HS.mu 0 rfl)
  replace HS := HS.freezeO 0 (p := (fun W => k36.C W A67 4 ([x0.f1, x0.f2, x0.f3, x0.f4]))) rfl (fun W_ hm_ h_ => row_C (by simp) hm_ (AllF.get 0 rfl h_))
  exact by (
  dsimp only [List.eraseIdx] at HS
  obtain ⟨G70, hG71, o72, H, Ho73⟩ := open_G H
  have X75 : ∀ E_ W_, (∃ (i74 : Int), E_ = [(1, .int .i64 a1), (2, .pointer (some ⟨b2, 0, none⟩)), (5, .int .i64 (x0.f6.f1.length : Int)), (37, .slice A67 4 c68), (38, .int .i64 (4 : Int)), (39, .int .i64 i74)] ∧ G70 (Sum.inr i74) = some r ∧ St (fun _ => True) w W_ [boxM b2 cs0.toArray 48] [(fun W => k36.C W A67 4 ([x0.f1, x0.f2, x0.f3, x0.f4])), (fun W => (Kd.slice 3 (Kd.int .i64)).C W A61 x0.f4.f2.length x0.f4.f2), (fun W => (Kd.slice 3 (Kd.int .i64)).C W A57 x0.f4.f1.length x0.f4.f1), (fun W => (Kd.slice 3 (Kd.int .i64)).C W A53 x0.f3.f2.length x0.f3.f2), (fun W => (Kd.slice 3 (Kd.int .i64)).C W A49 x0.f3.f1.length x0.f3.f1), (fun W => (Kd.slice 3 (Kd.int .i64)).C W A45 x0.f2.f2.length x0.f2.f2), (fun W => (Kd.slice 3 (Kd.int .i64)).C W A41 x0.f2.f1.length x0.f2.f1), (fun W => (Kd.slice 3 (Kd.int .i64)).C W A37 x0.f1.f2.length x0.f1.f2), (fun W => (Kd.slice 3 (Kd.int .i64)).C W A33 x0.f1.f1.length x0.f1.f1), (fun W => (Kd.int .i64).C W A19 x0.f5.length x0.f5), (fun W => (Kd.int .i64).C W A11 x0.f0.length x0.f0), (fun W => (Kd.slice 3 (Kd.int .i64)).C W A5 x0.f6.f1.length x0.f6.f1), (fun W => k48.K W x0 cs0)] []) → ∀ a, Fits a 61 E_ → K31 a W_ := by
    rintro E_ w76 ⟨i74, rfl, H, HS⟩
    rw [hG71] at H
    (try dsimp only at H)
    exact by (
    refine hK31 _ _ ?_
    clear hK31
    refine sr_ fun _ hK77 => ?_
    refine v_ (fa_ Try.underlying48) ?_
    obtain ⟨A78, c79, hc80, le81, HS⟩ := HS.sO 12 rfl at48_24
    refine v_ (ls_ (HS.mu 0 rfl) Try.underlying36 (part_cons (at48_22 (HS.aO 13 rfl)).int (part_cons hc7 (part_cons hc80 (part_cons (at48_25 (HS.aO 13 rfl)).int (part_cons (at48_26 (HS.aO 13 rfl)).int part_nil)))))) ?_
    exact by (
    refine mv_ ?_
    refine mv_ ?_
    obtain ⟨t82, ha83, H⟩ := bind_some H
    refine cs_ HS Try.func65 (impl_withinBudget.calls k x0.f6.f0 A5 c6 x0.f6.f1 A78 c79 x0.f6.f2 x0.f6.f3 x0.f6.f4 a1 (x0.f6.f1.length : Int) t82 _ (HS.getO 12 rfl) le8 (HS.getO 0 rfl) le81 ha83) (fun w84 HS => ?_)
    clear ha83
    refine mv_ ?_
    exact by (
    rcases eti_ H with ⟨c85, H⟩ | ⟨c85, H⟩
    · refine off_ (c' := false) (bF c85) ?_
      refine WL.know 54 (bF c85) ?_
      refine fast_ ?_
      refine via_ hK77 ?_
      clear hK77
      obtain rfl := os H
      exact rt1 Try.f22 rfl rfl hR_ ⟨rfl, HS.b⟩
    exact by (
    refine on_ c85 ?_
    refine v_ (fa_ Try.underlying48) ?_
    refine on_ c85 ?_
    obtain ⟨A86, c87, hc88, le89, HS⟩ := HS.sO 13 rfl at48_28
    obtain ⟨A90, c91, hc92, le93, HS⟩ := HS.sO 14 rfl at48_29
    refine v_ (ls_ (HS.mu 0 rfl) Try.underlying36 (part_cons (at48_27 (HS.aO 15 rfl)).int (part_cons hc88 (part_cons hc92 (part_cons (at48_30 (HS.aO 15 rfl)).int (part_cons (at48_31 (HS.aO 15 rfl)).int part_nil)))))) ?_
    exact by (
    refine on_ c85 ?_
    refine mv_ ?_
    refine on_ c85 ?_
    refine mv_ ?_
    refine on_ c85 ?_
    obtain ⟨t94, ha95, H⟩ := bind_some H
    exact by (
    refine cs_ HS Try.func65 (impl_withinBudget.calls k x0.f7.f0 A86 c87 x0.f7.f1 A90 c91 x0.f7.f2 x0.f7.f3 x0.f7.f4 (x0.f6.f1.length : Int) a1 t94 _ (HS.getO 1 rfl) le89 (HS.getO 0 rfl) le93 ha95) (fun w96 HS => ?_)
    clear ha95
    refine v_ (Run.pickT rfl rfl c85 rfl) ?_
    refine as_ ?_
    refine dn_ hK77 ?_
    clear hK77
    obtain rfl := os H
    exact rt1 Try.f22 rfl rfl hR_ ⟨rfl, HS.b⟩ ))))))
  exact by (
  clear hK31
  refine WC.loop (fun k_ E_ W_ => ∃ (i74 : Int), E_ = [(1, .int .i64 a1), (2, .pointer (some ⟨b2, 0, none⟩)), (5, .int .i64 (x0.f6.f1.length : Int)), (37, .slice A67 4 c68), (38, .int .i64 (4 : Int)), (39, .int .i64 i74)] ∧ (∃ o_, impl_LayerOk.l0 x0 a1 k_ i74 = some o_ ∧ G70 o_ = some r) ∧ St (fun _ => True) w W_ [boxM b2 cs0.toArray 48] [(fun W => k36.C W A67 4 ([x0.f1, x0.f2, x0.f3, x0.f4])), (fun W => (Kd.slice 3 (Kd.int .i64)).C W A61 x0.f4.f2.length x0.f4.f2), (fun W => (Kd.slice 3 (Kd.int .i64)).C W A57 x0.f4.f1.length x0.f4.f1), (fun W => (Kd.slice 3 (Kd.int .i64)).C W A53 x0.f3.f2.length x0.f3.f2), (fun W => (Kd.slice 3 (Kd.int .i64)).C W A49 x0.f3.f1.length x0.f3.f1), (fun W => (Kd.slice 3 (Kd.int .i64)).C W A45 x0.f2.f2.length x0.f2.f2), (fun W => (Kd.slice 3 (Kd.int .i64)).C W A41 x0.f2.f1.length x0.f2.f1), (fun W => (Kd.slice 3 (Kd.int .i64)).C W A37 x0.f1.f2.length x0.f1.f2), (fun W => (Kd.slice 3 (Kd.int .i64)).C W A33 x0.f1.f1.length x0.f1.f1), (fun W => (Kd.int .i64).C W A19 x0.f5.length x0.f5), (fun W => (Kd.int .i64).C W A11 x0.f0.length x0.f0), (fun W => (Kd.slice 3 (Kd.int .i64)).C W A5 x0.f6.f1.length x0.f6.f1), (fun W => k48.K W x0 cs0)] []) k ⟨0, rfl, ⟨_, H, Ho73⟩, (St.pick HS (fun W_ h_ => ⟨AllF.get 0 rfl h_, AllF.get 2 rfl h_, AllF.get 3 rfl h_, AllF.get 4 rfl h_, AllF.get 5 rfl h_, AllF.get 6 rfl h_, AllF.get 7 rfl h_, AllF.get 8 rfl h_, AllF.get 9 rfl h_, AllF.get 10 rfl h_, AllF.get 11 rfl h_, AllF.get 12 rfl h_, AllF.get 13 rfl h_, trivial⟩) (fun W_ h_ => trivial))⟩ ⟨rfl, rfl, rfl, rfl, rfl, rfl, trivial⟩ ?_
  rintro k_ E_ w98 ⟨i74, rfl, ⟨o72, H, Ho73⟩, HS⟩
  rcases k_ with _ | k99
  · exact no_ H
  replace H : impl_LayerOk.b0 x0 a1 (impl_LayerOk.l0 x0 a1 k99) k99 i74 = some o72 := H
  exact by (
  unfold impl_LayerOk.b0 at H
  refine sr_ fun _ hK100 => ?_
  refine b_ bin_lss ?_
  refine dn_ hK100 ?_
  clear hK100
  refine WC.seq fun _ hK101 => ?_
  exact by (
  rcases eti_ H with ⟨c102, H⟩ | ⟨c102, H⟩
  · refine wn_ (dF c102) ?_
    refine WC.exit ?_
    obtain rfl := os H
    exact WQ.via2 (fun _ _ h_ => h_) X75 ⟨i74, rfl, Ho73, (St.pick HS (fun W_ h_ => ⟨AllF.get 0 rfl h_, AllF.get 1 rfl h_, AllF.get 2 rfl h_, AllF.get 3 rfl h_, AllF.get 4 rfl h_, AllF.get 5 rfl h_, AllF.get 6 rfl h_, AllF.get 7 rfl h_, AllF.get 8 rfl h_, AllF.get 9 rfl h_, AllF.get 10 rfl h_, AllF.get 11 rfl h_, AllF.get 12 rfl h_, trivial⟩) (fun W_ h_ => trivial))⟩ ⟨rfl, rfl, rfl, rfl, rfl, rfl, trivial⟩
  refine wy_ (dT c102) ?_
  exact by (
  refine WC.skip ?_
  refine via_ hK101 ?_
  clear hK101
  refine WC.seq fun _ hK103 => ?_
  refine WC.block ?_
  refine sr_ fun _ hK104 => ?_
  exact by (
  obtain ⟨⟨q105, q106⟩, H⟩ := if_some H
  obtain ⟨ad107, rfl⟩ := C_open (HS.getO 0 rfl) (by omega)
  refine v_ (ia_ Try.underlying87 5 q105 q106) ?_
  obtain ⟨e108, el109, HS⟩ := HS.elO 0 rfl (by decide) o36 i74 q105 q106
  obtain ⟨A110, c111, hc112, le113, HS⟩ := HS.eO 0 rfl at36_1
  obtain ⟨A114, c115, hc116, le117, HS⟩ := HS.eO 1 rfl at36_2
  exact by (
  refine v_ (Run.loadS (cs := [.int .i64 ((([x0.f1, x0.f2, x0.f3, x0.f4]).getD i74.toNat o36).f0), .slice A110 ((([x0.f1, x0.f2, x0.f3, x0.f4]).getD i74.toNat o36).f1.length) c111, .slice A114 ((([x0.f1, x0.f2, x0.f3, x0.f4]).getD i74.toNat o36).f2.length) c115, .int .i64 ((([x0.f1, x0.f2, x0.f3, x0.f4]).getD i74.toNat o36).f3), .int .i64 ((([x0.f1, x0.f2, x0.f3, x0.f4]).getD i74.toNat o36).f4)]) rfl rfl Try.underlying36 rfl (by kernel_rfl) (cells_part (HS.getO 2 rfl).2 (part_cons (at36_0 (AtK.whole (HS.getO 2 rfl).1)).int (part_cons hc112 (part_cons hc116 (part_cons (at36_3 (AtK.whole (HS.getO 2 rfl).1)).int (part_cons (at36_4 (AtK.whole (HS.getO 2 rfl).1)).int part_nil))))))) ?_
  refine WL.alloc HS (v := .agg #[.int .i64 0, .slice none 0 0, .slice none 0 0, .int .i64 0, .int .i64 0]) (cs := #[.int .i64 0, .slice none 0 0, .slice none 0 0, .int .i64 0, .int .i64 0]) rfl rfl (by decide) rfl (by kernel_rfl) rfl (fun b118 w119 hb118 HS => ?_)
  refine WL.storeS HS 0 (vs := [.int .i64 ((([x0.f1, x0.f2, x0.f3, x0.f4]).getD i74.toNat o36).f0), .slice A110 ((([x0.f1, x0.f2, x0.f3, x0.f4]).getD i74.toNat o36).f1.length) c111, .slice A114 ((([x0.f1, x0.f2, x0.f3, x0.f4]).getD i74.toNat o36).f2.length) c115, .int .i64 ((([x0.f1, x0.f2, x0.f3, x0.f4]).getD i74.toNat o36).f3), .int .i64 ((([x0.f1, x0.f2, x0.f3, x0.f4]).getD i74.toNat o36).f4)]) rfl rfl rfl rfl rfl rfl (one_cons rfl (one_cons rfl (one_cons rfl (one_cons rfl (one_cons rfl one_nil))))) (by kernel_rfl) (Nat.le_of_ble_eq_true rfl) (cs' := #[.int .i64 ((([x0.f1, x0.f2, x0.f3, x0.f4]).getD i74.toNat o36).f0), .slice A110 ((([x0.f1, x0.f2, x0.f3, x0.f4]).getD i74.toNat o36).f1.length) c111, .slice A114 ((([x0.f1, x0.f2, x0.f3, x0.f4]).getD i74.toNat o36).f2.length) c115, .int .i64 ((([x0.f1, x0.f2, x0.f3, x0.f4]).getD i74.toNat o36).f3), .int .i64 ((([x0.f1, x0.f2, x0.f3, x0.f4]).getD i74.toNat o36).f4)]) (by kernel_rfl) (fun w120 HS => ?_)
  dsimp only [List.set] at HS
  refine dn_ hK104 ?_
  clear hK104
  exact by (
  refine sr_ fun _ hK121 => ?_
  refine v_ (ls_ (HS.mu 0 rfl) Try.underlying36 part_all) ?_
  refine mv_ ?_
  refine mv_ ?_
  obtain ⟨t122, ha123, H⟩ := bind_some H
  refine cs_ HS Try.func65 (impl_withinBudget.calls k99 ((([x0.f1, x0.f2, x0.f3, x0.f4]).getD i74.toNat o36).f0) A110 c111 ((([x0.f1, x0.f2, x0.f3, x0.f4]).getD i74.toNat o36).f1) A114 c115 ((([x0.f1, x0.f2, x0.f3, x0.f4]).getD i74.toNat o36).f2) ((([x0.f1, x0.f2, x0.f3, x0.f4]).getD i74.toNat o36).f3) ((([x0.f1, x0.f2, x0.f3, x0.f4]).getD i74.toNat o36).f4) a1 a1 t122 _ (HS.getO 1 rfl) le113 (HS.getO 0 rfl) le117 ha123) (fun w124 HS => ?_)
  exact by (
  clear ha123
  refine nt_ ?_
  refine dn_ hK121 ?_
  clear hK121
  rcases eti_ H with ⟨c125, H⟩ | ⟨c125, H⟩
  · refine wy_ (nB (bF c125)) ?_
    exact by (
    refine sr_ fun _ hK126 => ?_
    refine as_ ?_
    refine dn_ hK126 ?_
    clear hK126
    refine WC.ret ?_
    obtain rfl := os H
    exact by (
    rw [hG71] at Ho73
    replace H : some _ = some _ := Ho73
    obtain rfl := os H
    exact fin1 Try.f22 rfl rfl hR_ ⟨rfl, HS.b⟩ ))
  refine wn_ (nB c125) ?_
  refine WC.skip ?_
  exact by (
  refine via_ hK103 ?_
  clear hK103
  refine rg_ ?_
  refine b_ bin_add64 ?_
  refine mv_ ?_
  refine WL.done ?_
  exact WQ.round k99 (fun _ _ h_ => h_) (Nat.lt_succ_self _) ⟨(wrap64 (i74 + 1)), rfl, ⟨_, H, Ho73⟩, (St.pick (St.forget HS 0 rfl) (fun W_ h_ => ⟨AllF.get 3 rfl h_, AllF.get 4 rfl h_, AllF.get 5 rfl h_, AllF.get 6 rfl h_, AllF.get 7 rfl h_, AllF.get 8 rfl h_, AllF.get 9 rfl h_, AllF.get 10 rfl h_, AllF.get 11 rfl h_, AllF.get 12 rfl h_, AllF.get 13 rfl h_, AllF.get 14 rfl h_, AllF.get 15 rfl h_, trivial⟩) (fun W_ h_ => trivial))⟩ ⟨rfl, rfl, rfl, rfl, rfl, rfl, trivial⟩ ))))))))))))))))))))))))
def impl_Vocab.g (k : Nat) (x0 : S39) : Option Int := (some (wrap64 (256 + (x0.f3.length : Int))))
theorem impl_Vocab.runs (k : Nat) (cs0 : List Value) (x0 : S39) (r : Int) (w : World) (hk0 : k39.K w x0 cs0) (H : impl_Vocab.g k x0 = some r) :
    Calls Try.prog 17 #[.agg cs0.toArray] w fun e w' => e = .returned (.int .i64 r) ∧ Below w.heap.size w w' := by
  have el0 : cs0.length = 14 := k39.K_len hk0
  unfold impl_Vocab.g at H
  have HS : St (fun _ => True) w w [] [(fun W => k39.K W x0 cs0)] [] := St.start (foot_cons (foot_K h39 hk0) foot_nil)
  refine cw_ (n := 7) Try.func17 fun R_ hR_ => ?_
  refine sr_ fun _ hK1 => ?_
  refine bo_ HS (fun b2 w3 hb2 HS => ?_)
  exact by (
  refine as_ ?_
  refine dn_ hK1 ?_
  clear hK1
  refine sr_ fun _ hK4 => ?_
  refine v_ (fa_ Try.underlying39) ?_
  obtain ⟨A5, c6, hc7, le8, HS⟩ := HS.sO 0 rfl at39_3
  exact by (
  refine v_ (lb_ (HS.mu 0 rfl) Try.underlying34 hc7) ?_
  refine ln_ Try.underlying34 ?_
  refine b_ bin_add64 ?_
  refine as_ ?_
  refine dn_ hK4 ?_
  clear hK4
  obtain rfl := os H
  exact rt1 Try.f17 rfl rfl hR_ ⟨rfl, HS.b⟩ ))
def impl_sizesOf_1.g (k : Nat) (a0 : Int) (l1 : List Int) : Option Int := (if a0 < 256 then (some 1) else (if 0 ≤ (wrap64 (a0 - 256)) ∧ (wrap64 (a0 - 256)) < (l1.length : Int) then (some (l1.getD (wrap64 (a0 - 256)).toNat 0)) else none))
theorem impl_sizesOf_1.runs (k : Nat) (a0 : Int) (b1 : Nat) (A1 : Option Addr) (c1 : Nat) (l1 : List Int) (r : Int) (w : World) (hr1 : (Kd.int .i64).C w A1 l1.length l1) (hc1 : l1.length ≤ c1) (hb1 : w.heap[b1]? = some (.cells #[.slice A1 l1.length c1] 25 (0, 0))) (H : impl_sizesOf_1.g k a0 l1 = some r) :
    Calls Try.prog 147 #[.int .i64 a0, .pointer (some ⟨b1, 0, none⟩)] w fun e w' => e = .returned (.int .i64 r) ∧ Below w.heap.size w w' := by
  unfold impl_sizesOf_1.g at H
  have HS : St (fun _ => True) w w [] [(fun W => (Kd.int .i64).C W A1 l1.length l1), (fun W => W.heap[b1]? = some (.cells #[.slice A1 l1.length c1] 25 (0, 0)))] [] := St.start (foot_cons (foot_C (Kd.heap_int _) hr1) (foot_cons (foot_rob hb1) foot_nil))
  refine cw_ (n := 11) Try.func147 fun R_ hR_ => ?_
  refine sr_ fun _ hK1 => ?_
  refine as_ ?_
  refine dn_ hK1 ?_
  exact by (
  clear hK1
  refine WC.seq fun _ hK2 => ?_
  refine sr_ fun _ hK3 => ?_
  refine mv_ ?_
  refine b_ bin_lss ?_
  refine dn_ hK3 ?_
  exact by (
  clear hK3
  rcases ite_ H with ⟨c4, H⟩ | ⟨c4, H⟩
  · refine wy_ (dT c4) ?_
    refine sr_ fun _ hK5 => ?_
    refine as_ ?_
    refine dn_ hK5 ?_
    exact by (
    clear hK5
    obtain rfl := os H
    exact rt1 Try.f147 rfl rfl hR_ ⟨rfl, HS.b⟩ )
  refine wn_ (dF c4) ?_
  refine WC.skip ?_
  refine via_ hK2 ?_
  exact by (
  clear hK2
  refine sr_ fun _ hK6 => ?_
  refine v_ (lb_ (HS.getO 1 rfl) Try.underlying25 rfl) ?_
  refine mv_ ?_
  refine b_ bin_sub64 ?_
  obtain ⟨⟨q7, q8⟩, H⟩ := if_some H
  exact by (
  obtain ⟨ad9, rfl⟩ := C_open (HS.getO 0 rfl) (by omega)
  refine v_ (ia_ Try.underlying25 1 q7 q8) ?_
  refine v_ (Run.load rfl rfl Try.underlying3 rfl (int_cell (HS.getO 0 rfl) (wrap64 (a0 - 256)) q7 q8)) ?_
  refine as_ ?_
  refine dn_ hK6 ?_
  clear hK6
  obtain rfl := os H
  exact rt1 Try.f147 rfl rfl hR_ ⟨rfl, HS.b⟩ ))))
def impl_sizesOf.b0 (l0 : List S112) (rec_ : Int → (List Int) → Option (((List Int) × Bool) ⊕ (Int × (List Int)))) (k29 : Nat) (i17 : Int) (xs18 : List Int) : Option (((List Int) × Bool) ⊕ (Int × (List Int))) := (if i17 < (l0.length : Int) then (if 0 ≤ i17 ∧ i17 < (l0.length : Int) then ((impl_isToken.f ((l0.getD i17.toNat o112).f0) i17).bind fun t45 => (if t45 = true then ((impl_isToken.f ((l0.getD i17.toNat o112).f1) i17).bind fun t49 => (if t49 = true then ((impl_sizesOf_1.g k29 ((l0.getD i17.toNat o112).f0) xs18).bind fun t57 => ((impl_sizesOf_1.g k29 ((l0.getD i17.toNat o112).f1) xs18).bind fun t60 => (if (wrap64 (t57 + t60)) > 64 then (some (Sum.inl ([], false))) else (if (xs18.length) < 4294967296 then (rec_ (wrap64 (i17 + 1)) (xs18 ++ [wrap64 (t57 + t60)])) else none)))) else (some (Sum.inl ([], false))))) else (some (Sum.inl ([], false))))) else none) else (some (Sum.inr (i17, xs18))))
def impl_sizesOf.l0 (l0 : List S112) : Nat → Int → (List Int) → Option (((List Int) × Bool) ⊕ (Int × (List Int)))
  | 0, _, _ => none
  | k + 1, i17, xs18 => impl_sizesOf.b0 l0 (impl_sizesOf.l0 l0 k) k i17 xs18
def impl_sizesOf.g (k : Nat) (l0 : List S112) : Option ((List Int) × Bool) := ((impl_sizesOf.l0 l0 k 0 ([] : List Int)).bind (fun o27 => match o27 with | .inl r_ => some r_ | .inr ⟨i17, xs18⟩ => (some (xs18, true))))
theorem impl_sizesOf.runs (k : Nat) (A0 : Option Addr) (c0 : Nat) (l0 : List S112) (r1 : List Int) (r2 : Bool) (w : World) (hr0 : k112.C w A0 l0.length l0) (hc0 : l0.length ≤ c0) (H : impl_sizesOf.g k l0 = some (r1, r2)) :
    Calls Try.prog 123 #[.slice A0 l0.length c0] w fun e w' => ∃ (A0_ : Option Addr) (c0_ : Nat), e = .returned (.tuple #[.slice A0_ r1.length c0_, .bool r2]) ∧ r1.length ≤ c0_ ∧ Foot (fun W => (Kd.int .i64).C W A0_ r1.length r1) w' (fun k_ => w.heap.size ≤ k_) ∧ Below w.heap.size w w' := by
  unfold impl_sizesOf.g at H
  have HS : St (fun _ => True) w w [] [(fun W => k112.C W A0 l0.length l0)] [] := St.start (foot_cons (foot_C h112 hr0) foot_nil)
  refine cw_ (n := 47) Try.func123 fun R_ hR_ => ?_
  refine sr_ fun _ hK1 => ?_
  refine as_ ?_
  refine as_ ?_
  exact by (
  refine dn_ hK1 ?_
  clear hK1
  refine sr_ fun _ hK2 => ?_
  refine WL.lit0 HS rfl rfl (by decide) rfl Try.underlying25 (sz := 1) (by kernel_rfl) (fun v3 w4 HS => ?_)
  replace HS := HS.deriveN (p := (fun W => Reps ((Kd.int .i64).K W) (Kd.int .i64).sz ([] : List Int) [])) (fun _ _ => Reps.none _ _)
  refine WL.alloc HS (v := .slice none 0 0) (cs := #[.slice none 0 0]) rfl rfl (by decide) rfl (by kernel_rfl) rfl (fun b5 w6 hb5 HS => ?_)
  exact by (
  obtain ⟨A8, c9, rfl⟩ := row_slice (HS.mu 1 rfl)
  refine WL.store HS 0 rfl rfl rfl rfl rfl rfl rfl (by kernel_rfl) (Nat.le_of_ble_eq_true rfl) (cs' := #[(.slice A8 0 c9)]) (by kernel_rfl) (fun w7 HS => ?_)
  dsimp only [List.set] at HS
  refine dn_ hK2 ?_
  clear hK2
  refine sr_ fun _ hK10 => ?_
  exact by (
  refine v_ (Run.makeFunc (cap := [.pointer (some ⟨b5, 0, none⟩)]) rfl rfl) ?_
  refine as_ ?_
  refine dn_ hK10 ?_
  clear hK10
  refine WC.seq fun K11 hK11 => ?_
  refine sr_ fun _ hK12 => ?_
  exact by (
  refine mv_ ?_
  refine ln_ Try.underlying34 ?_
  refine mv_ ?_
  refine dn_ hK12 ?_
  clear hK12
  refine WC.block ?_
  exact by (
  obtain ⟨G13, hG14, o15, H, Ho16⟩ := open_G H
  have X21 : ∀ E_ W_, (∃ (i17 : Int) (xs18 : List Int) (v19 : Value) (I20 : List Value), E_ = [(4, .pointer (some ⟨b5, 0, none⟩)), (5, .func (.func 147) #[] #[.pointer (some ⟨b5, 0, none⟩)]), (11, .slice A0 l0.length c0), (12, .int .i64 (l0.length : Int)), (13, .int .i64 i17)] ∧ G13 (Sum.inr (i17, xs18)) = some (r1, r2) ∧ St (fun _ => True) w W_ [boxM b5 #[v19] 25, rowM w.heap.size 3 1 v19 xs18.length I20] [(fun W => k112.C W A0 l0.length l0)] [(fun W => Reps ((Kd.int .i64).K W) (Kd.int .i64).sz xs18 I20)]) → ∀ a, Fits a 47 E_ → K11 a W_ := by
    rintro E_ w22 ⟨i17, xs18, v19, I20, rfl, H, HS⟩
    rw [hG14] at H
    (try dsimp only at H)
    refine hK11 _ _ ?_
    exact by (
    clear hK11
    refine sr_ fun _ hK23 => ?_
    obtain ⟨A24, c25, rfl⟩ := row_slice (HS.mu 1 rfl)
    refine v_ (lb_ (HS.mu 0 rfl) Try.underlying25 rfl) ?_
    refine as_ ?_
    refine as_ ?_
    exact by (
    refine dn_ hK23 ?_
    clear hK23
    refine WC.ret ?_
    have le26 := row_le (HS.mu 1 rfl)
    replace HS := HS.freezeN 1 (p := (fun W => (Kd.int .i64).C W A24 (xs18).length (xs18))) rfl (fun W_ hm_ h_ => row_C (by rfl) hm_ (AllF.get 0 rfl h_))
    dsimp only [List.eraseIdx] at HS
    obtain ⟨rfl, rfl⟩ := Prod.mk.inj (os H)
    exact fin2 Try.f123 rfl rfl rfl hR_ ⟨_, _, rfl, le26, (foot_fresh (HS.footN 0 rfl)), HS.b⟩ ))
  exact by (
  clear hK11
  refine WC.loop (fun k_ E_ W_ => ∃ (i17 : Int) (xs18 : List Int) (v19 : Value) (I20 : List Value), E_ = [(4, .pointer (some ⟨b5, 0, none⟩)), (5, .func (.func 147) #[] #[.pointer (some ⟨b5, 0, none⟩)]), (11, .slice A0 l0.length c0), (12, .int .i64 (l0.length : Int)), (13, .int .i64 i17)] ∧ (∃ o_, impl_sizesOf.l0 l0 k_ i17 xs18 = some o_ ∧ G13 o_ = some (r1, r2)) ∧ St (fun _ => True) w W_ [boxM b5 #[v19] 25, rowM w.heap.size 3 1 v19 xs18.length I20] [(fun W => k112.C W A0 l0.length l0)] [(fun W => Reps ((Kd.int .i64).K W) (Kd.int .i64).sz xs18 I20)]) k ⟨0, ([] : List Int), (.slice A8 0 c9), ([]), rfl, ⟨_, H, Ho16⟩, (St.pick HS (fun W_ h_ => ⟨AllF.get 0 rfl h_, trivial⟩) (fun W_ h_ => ⟨AllF.get 0 rfl h_, trivial⟩))⟩ ⟨rfl, rfl, rfl, rfl, rfl, trivial⟩ ?_
  rintro k_ E_ w28 ⟨i17, xs18, v19, I20, rfl, ⟨o15, H, Ho16⟩, HS⟩
  rcases k_ with _ | k29
  · exact no_ H
  replace H : impl_sizesOf.b0 l0 (impl_sizesOf.l0 l0 k29) k29 i17 xs18 = some o15 := H
  exact by (
  unfold impl_sizesOf.b0 at H
  refine sr_ fun _ hK30 => ?_
  refine b_ bin_lss ?_
  refine dn_ hK30 ?_
  clear hK30
  refine WC.seq fun _ hK31 => ?_
  exact by (
  rcases eti_ H with ⟨c32, H⟩ | ⟨c32, H⟩
  · refine wn_ (dF c32) ?_
    refine WC.exit ?_
    obtain rfl := os H
    exact WQ.via2 (fun _ _ h_ => h_) X21 ⟨i17, xs18, v19, I20, rfl, Ho16, (St.pick HS (fun W_ h_ => ⟨AllF.get 0 rfl h_, trivial⟩) (fun W_ h_ => ⟨AllF.get 0 rfl h_, trivial⟩))⟩ ⟨rfl, rfl, rfl, rfl, rfl, trivial⟩
  refine wy_ (dT c32) ?_
  exact by (
  refine WC.skip ?_
  refine via_ hK31 ?_
  clear hK31
  refine WC.seq fun _ hK33 => ?_
  refine WC.block ?_
  refine sr_ fun _ hK34 => ?_
  exact by (
  refine mv_ ?_
  obtain ⟨⟨q35, q36⟩, H⟩ := if_some H
  obtain ⟨ad37, rfl⟩ := C_open (HS.getO 0 rfl) (by omega)
  refine v_ (ia_ Try.underlying34 2 q35 q36) ?_
  obtain ⟨e38, el39, HS⟩ := HS.elO 0 rfl (by decide) o112 i17 q35 q36
  refine v_ (Run.loadS (cs := [.int .i64 ((l0.getD i17.toNat o112).f0), .int .i64 ((l0.getD i17.toNat o112).f1)]) rfl rfl Try.underlying112 rfl (by kernel_rfl) (cells_part (HS.getO 0 rfl).2 (part_cons (at112_0 (AtK.whole (HS.getO 0 rfl).1)).int (part_cons (at112_1 (AtK.whole (HS.getO 0 rfl).1)).int part_nil)))) ?_
  exact by (
  refine WL.alloc HS (v := .agg #[.int .i64 0, .int .i64 0]) (cs := #[.int .i64 0, .int .i64 0]) rfl rfl (by decide) rfl (by kernel_rfl) rfl (fun b40 w41 hb40 HS => ?_)
  refine as_ ?_
  refine WL.storeS HS 0 (vs := [.int .i64 ((l0.getD i17.toNat o112).f0), .int .i64 ((l0.getD i17.toNat o112).f1)]) rfl rfl rfl rfl rfl rfl (one_cons rfl (one_cons rfl one_nil)) (by kernel_rfl) (Nat.le_of_ble_eq_true rfl) (cs' := #[.int .i64 ((l0.getD i17.toNat o112).f0), .int .i64 ((l0.getD i17.toNat o112).f1)]) (by kernel_rfl) (fun w42 HS => ?_)
  dsimp only [List.set] at HS
  refine dn_ hK34 ?_
  clear hK34
  exact by (
  refine WC.seq fun _ hK43 => ?_
  refine sr_ fun _ hK44 => ?_
  refine v_ (fa_ Try.underlying112) ?_
  refine v_ (lb_ (HS.mu 0 rfl) Try.underlying3 rfl) ?_
  refine mv_ ?_
  obtain ⟨t45, ha46, H⟩ := bind_some H
  exact by (
  refine cs0_ HS Try.func148 (impl_isToken.calls ((l0.getD i17.toNat o112).f0) i17 t45 _ ha46) (fun w47 HS => ?_)
  clear ha46
  refine nt_ ?_
  refine mv_ ?_
  rcases eti_ H with ⟨c48, H⟩ | ⟨c48, H⟩
  · refine off_ (c' := true) (nB (bF c48)) ?_
    exact by (
    refine WL.know 23 (nB (bF c48)) ?_
    refine fast_ ?_
    refine via_ hK44 ?_
    clear hK44
    refine wy_ rfl ?_
    refine sr_ fun _ hK76 => ?_
    exact by (
    refine as_ ?_
    refine as_ ?_
    refine dn_ hK76 ?_
    clear hK76
    refine WC.ret ?_
    obtain rfl := os H
    exact by (
    rw [hG14] at Ho16
    replace H : some _ = some _ := Ho16
    obtain ⟨rfl, rfl⟩ := Prod.mk.inj (os H)
    exact fin2 Try.f123 rfl rfl rfl hR_ ⟨_, _, rfl, (Nat.le_refl _), (fun W_ _ => Kd.C_nil _ _), HS.b⟩ )))
  refine on_ (nB c48) ?_
  refine v_ (fa_ Try.underlying112) ?_
  exact by (
  refine on_ (nB c48) ?_
  refine v_ (lb_ (HS.mu 0 rfl) Try.underlying3 rfl) ?_
  refine on_ (nB c48) ?_
  refine mv_ ?_
  refine on_ (nB c48) ?_
  obtain ⟨t49, ha50, H⟩ := bind_some H
  exact by (
  refine cs0_ HS Try.func148 (impl_isToken.calls ((l0.getD i17.toNat o112).f1) i17 t49 _ ha50) (fun w51 HS => ?_)
  clear ha50
  refine on_ (nB c48) ?_
  refine nt_ ?_
  refine v_ (Run.pickF rfl rfl (nB c48) rfl) ?_
  refine dn_ hK44 ?_
  exact by (
  clear hK44
  rcases eti_ H with ⟨c52, H⟩ | ⟨c52, H⟩
  · refine wy_ (nB (bF c52)) ?_
    refine sr_ fun _ hK75 => ?_
    refine as_ ?_
    refine as_ ?_
    exact by (
    refine dn_ hK75 ?_
    clear hK75
    refine WC.ret ?_
    obtain rfl := os H
    rw [hG14] at Ho16
    replace H : some _ = some _ := Ho16
    obtain ⟨rfl, rfl⟩ := Prod.mk.inj (os H)
    exact fin2 Try.f123 rfl rfl rfl hR_ ⟨_, _, rfl, (Nat.le_refl _), (fun W_ _ => Kd.C_nil _ _), HS.b⟩ )
  exact by (
  refine wn_ (nB c52) ?_
  refine WC.skip ?_
  refine via_ hK43 ?_
  clear hK43
  refine WC.seq fun _ hK53 => ?_
  refine WC.drawS HS [] rfl rfl (fun w54 HS => ?_)
  exact by (
  have HB := Below.refl w54.heap.size w54
  have HSW := HS
  refine dm_ 0 ?_
  refine df_ 1 Try.underlying112 ?_
  refine dm_ 4 ?_
  refine df_ 5 Try.underlying112 ?_
  exact by (
  refine bl_ 2 HS (Below.refl _ _) 0 Try.underlying3 rfl ?_
  refine bl_ 6 HS (Below.refl _ _) 0 Try.underlying3 rfl ?_
  obtain ⟨A55, c56, rfl⟩ := row_slice (HS.mu 2 rfl)
  obtain ⟨t57, ha58, H⟩ := bind_some H
  refine dcv_ (args := [.int .i64 ((l0.getD i17.toNat o112).f0)]) (cap := [.pointer (some ⟨b5, 0, none⟩)]) 3 (w_none rfl) Try.func147 (impl_sizesOf_1.runs k29 ((l0.getD i17.toNat o112).f0) b5 A55 c56 xs18 t57 _ (row_C rfl (HS.mu 2 rfl) (HS.getN 0 rfl)) (row_le (HS.mu 2 rfl)) (HS.mu 1 rfl) ha58) ?_
  clear ha58
  exact by (
  rintro _ w59 ⟨rfl, hb⟩
  replace HB := HB.trans (hb.mono HB.size)
  replace HS := HS.below hb
  refine ⟨HB, _, rfl, ?_⟩
  clear hb
  obtain ⟨t60, ha61, H⟩ := bind_some H
  exact by (
  refine dcv_ (args := [.int .i64 ((l0.getD i17.toNat o112).f1)]) (cap := [.pointer (some ⟨b5, 0, none⟩)]) 7 (w_none rfl) Try.func147 (impl_sizesOf_1.runs k29 ((l0.getD i17.toNat o112).f1) b5 A55 c56 xs18 t60 _ (row_C rfl (HS.mu 2 rfl) (HS.getN 0 rfl)) (row_le (HS.mu 2 rfl)) (HS.mu 1 rfl) ha61) ?_
  clear ha61
  rintro _ w62 ⟨rfl, hb⟩
  replace HB := HB.trans (hb.mono HB.size)
  replace HS := HS.below hb
  refine ⟨HB, _, rfl, ?_⟩
  exact by (
  clear hb
  refine dp_ 8 (fun _ => Run.bin rfl rfl rfl bin_add64) ?_
  refine dp_ 9 (fun _ => Run.assign rfl rfl) ?_
  refine dd_ ?_
  clear HB HSW
  refine via_ hK53 ?_
  exact by (
  clear hK53
  refine WC.seq fun _ hK63 => ?_
  refine sr_ fun _ hK64 => ?_
  refine mv_ ?_
  refine b_ bin_gtr ?_
  refine dn_ hK64 ?_
  exact by (
  clear hK64
  rcases ite_ H with ⟨c65, H⟩ | ⟨c65, H⟩
  · refine wy_ (dT c65) ?_
    refine sr_ fun _ hK66 => ?_
    refine as_ ?_
    refine as_ ?_
    exact by (
    refine dn_ hK66 ?_
    clear hK66
    refine WC.ret ?_
    obtain rfl := os H
    rw [hG14] at Ho16
    replace H : some _ = some _ := Ho16
    obtain ⟨rfl, rfl⟩ := Prod.mk.inj (os H)
    exact fin2 Try.f123 rfl rfl rfl hR_ ⟨_, _, rfl, (Nat.le_refl _), (fun W_ _ => Kd.C_nil _ _), HS.b⟩ )
  exact by (
  refine wn_ (dF c65) ?_
  refine WC.skip ?_
  refine via_ hK63 ?_
  clear hK63
  refine rg_ ?_
  refine v_ (lb_ (HS.mu 1 rfl) Try.underlying25 rfl) ?_
  exact by (
  refine mv_ ?_
  refine WL.val rfl rfl (by decide) (Run.lit1 (z := (.int .i64 0)) (vs := [.int .i64 (wrap64 (t57 + t60))]) rfl rfl rfl Try.underlying25 (by kernel_rfl) (Nat.le_of_ble_eq_true rfl) (Nat.le_of_ble_eq_true rfl)) ?_
  have HS1 := HS.below (below_alloc (Below.refl _ _) (.cells #[.int .i64 (wrap64 (t57 + t60))] 3))
  obtain ⟨q67, H⟩ := if_some H
  refine WL.append HS1 2 rfl rfl rfl (by decide) rfl (.int .i64 0) 8 Try.underlying25 (by kernel_rfl) rfl (by decide) (by decide) rfl rfl [.int .i64 (wrap64 (t57 + t60))] rfl (lit_news _ _ _) (one_cons rfl one_nil) (by omega) ((xs18 ++ [wrap64 (t57 + t60)]).length) (by simp) (fun v68 w69 I70 hI71 HS => ?_)
  dsimp only [List.set] at HS
  exact by (
  replace HS := HS.deriveN (p := (fun W => Reps ((Kd.int .i64).K W) (Kd.int .i64).sz (xs18 ++ [wrap64 (t57 + t60)]) I70)) (fun W_ hN_ => reps_snoc hI71 (AllF.get 0 rfl hN_) (K_int _))
  clear HS1
  obtain ⟨A73, c74, rfl⟩ := row_slice (HS.mu 2 rfl)
  refine WL.store HS 1 rfl rfl rfl rfl rfl rfl rfl (by kernel_rfl) (Nat.le_of_ble_eq_true rfl) (cs' := #[(.slice A73 ((xs18 ++ [wrap64 (t57 + t60)]).length) c74)]) (by kernel_rfl) (fun w72 HS => ?_)
  dsimp only [List.set] at HS
  refine dn_ hK33 ?_
  exact by (
  clear hK33
  refine rg_ ?_
  refine b_ bin_add64 ?_
  refine mv_ ?_
  refine WL.done ?_
  exact WQ.round k29 (fun _ _ h_ => h_) (Nat.lt_succ_self _) ⟨(wrap64 (i17 + 1)), (xs18 ++ [wrap64 (t57 + t60)]), (.slice A73 ((xs18 ++ [wrap64 (t57 + t60)]).length) c74), I70, rfl, ⟨_, H, Ho16⟩, (St.pick (St.forget HS 0 rfl) (fun W_ h_ => ⟨AllF.get 1 rfl h_, trivial⟩) (fun W_ h_ => ⟨AllF.get 0 rfl h_, trivial⟩))⟩ ⟨rfl, rfl, rfl, rfl, rfl, trivial⟩ ))))))))))))))))))))))))))))
def impl_MergesOk.b0 (l0 : List S112) (rec_ : Int → Option (Bool ⊕ Int)) (k26 : Nat) (i12 : Int) : Option (Bool ⊕ Int) := (if i12 < (l0.length : Int) then (if 0 ≤ i12 ∧ i12 < (l0.length : Int) then (if 0 ≤ i12 ∧ i12 ≤ (l0.length : Int) then ((impl_Merge_122.f k26 (l0.take i12.toNat) ((l0.getD i12.toNat o112).f0) ((l0.getD i12.toNat o112).f1)).bind fun t49 => (if t49 = true then (some (Sum.inl false)) else (rec_ (wrap64 (i12 + 1))))) else none) else none) else (some (Sum.inr i12)))
def impl_MergesOk.l0 (l0 : List S112) : Nat → Int → Option (Bool ⊕ Int)
  | 0, _ => none
  | k + 1, i12 => impl_MergesOk.b0 l0 (impl_MergesOk.l0 l0 k) k i12
def impl_MergesOk.g (k : Nat) (l0 : List S112) : Option Bool := (if (l0.length : Int) > 16 then (some false) else ((impl_MergesOk.l0 l0 k 0).bind (fun o24 => match o24 with | .inl r_ => some r_ | .inr i12 => ((impl_sizesOf.g k l0).bind fun t16 => (some t16.2)))))
theorem impl_MergesOk.runs (k : Nat) (A0 : Option Addr) (c0 : Nat) (l0 : List S112) (r : Bool) (w : World) (hr0 : k112.C w A0 l0.length l0) (hc0 : l0.length ≤ c0) (H : impl_MergesOk.g k l0 = some r) :
    Calls Try.prog 71 #[.slice A0 l0.length c0] w fun e w' => e = .returned (.bool r) ∧ Below w.heap.size w w' := by
  unfold impl_MergesOk.g at H
  have HS : St (fun _ => True) w w [] [(fun W => k112.C W A0 l0.length l0)] [] := St.start (foot_cons (foot_C h112 hr0) foot_nil)
  refine cw_ (n := 29) Try.func71 fun R_ hR_ => ?_
  refine sr_ fun _ hK1 => ?_
  refine as_ ?_
  refine dn_ hK1 ?_
  exact by (
  clear hK1
  refine WC.seq fun _ hK2 => ?_
  refine sr_ fun _ hK3 => ?_
  refine mv_ ?_
  refine ln_ Try.underlying34 ?_
  refine b_ bin_gtr ?_
  exact by (
  refine dn_ hK3 ?_
  clear hK3
  rcases ite_ H with ⟨c4, H⟩ | ⟨c4, H⟩
  · refine wy_ (dT c4) ?_
    refine sr_ fun _ hK5 => ?_
    refine as_ ?_
    exact by (
    refine dn_ hK5 ?_
    clear hK5
    obtain rfl := os H
    exact rt1 Try.f71 rfl rfl hR_ ⟨rfl, HS.b⟩ )
  refine wn_ (dF c4) ?_
  refine WC.skip ?_
  exact by (
  refine via_ hK2 ?_
  clear hK2
  refine WC.seq fun K6 hK6 => ?_
  refine sr_ fun _ hK7 => ?_
  refine mv_ ?_
  refine ln_ Try.underlying34 ?_
  exact by (
  refine mv_ ?_
  refine dn_ hK7 ?_
  clear hK7
  refine WC.block ?_
  obtain ⟨G8, hG9, o10, H, Ho11⟩ := open_G H
  have X13 : ∀ E_ W_, (∃ (i12 : Int), E_ = [(0, .slice A0 l0.length c0), (10, .slice A0 l0.length c0), (11, .int .i64 (l0.length : Int)), (12, .int .i64 i12)] ∧ G8 (Sum.inr i12) = some r ∧ St (fun _ => True) w W_ [] [(fun W => k112.C W A0 l0.length l0)] []) → ∀ a, Fits a 29 E_ → K6 a W_ := by
    exact by (
    rintro E_ w14 ⟨i12, rfl, H, HS⟩
    rw [hG9] at H
    (try dsimp only at H)
    refine hK6 _ _ ?_
    clear hK6
    refine sr_ fun _ hK15 => ?_
    exact by (
    refine mv_ ?_
    obtain ⟨t16, ha17, H⟩ := bind_some H
    refine c_ Try.func123 (impl_sizesOf.runs k A0 c0 l0 t16.1 t16.2 _ (HS.getO 0 rfl) hc0 ha17) ?_
    clear ha17
    rintro _ w18 ⟨A19, c20, rfl, le21, hf22, hb⟩
    replace HS := HS.newNs hb (foot_cons hf22 foot_nil)
    exact by (
    refine ⟨_, rfl, ?_⟩
    clear hb
    refine mv_ ?_
    refine v_ (Run.extract rfl rfl rfl) ?_
    refine v_ (Run.extract rfl rfl rfl) ?_
    refine as_ ?_
    exact by (
    refine as_ ?_
    refine dn_ hK15 ?_
    clear hK15
    refine sr_ fun _ hK23 => ?_
    refine mv_ ?_
    refine as_ ?_
    exact by (
    refine dn_ hK23 ?_
    clear hK23
    obtain rfl := os H
    exact rt1 Try.f71 rfl rfl hR_ ⟨rfl, HS.b⟩ )))))
  clear hK6
  refine WC.loop (fun k_ E_ W_ => ∃ (i12 : Int), E_ = [(0, .slice A0 l0.length c0), (10, .slice A0 l0.length c0), (11, .int .i64 (l0.length : Int)), (12, .int .i64 i12)] ∧ (∃ o_, impl_MergesOk.l0 l0 k_ i12 = some o_ ∧ G8 o_ = some r) ∧ St (fun _ => True) w W_ [] [(fun W => k112.C W A0 l0.length l0)] []) k ⟨0, rfl, ⟨_, H, Ho11⟩, (St.pick HS (fun W_ h_ => ⟨AllF.get 0 rfl h_, trivial⟩) (fun W_ h_ => trivial))⟩ ⟨rfl, rfl, rfl, rfl, trivial⟩ ?_
  exact by (
  rintro k_ E_ w25 ⟨i12, rfl, ⟨o10, H, Ho11⟩, HS⟩
  rcases k_ with _ | k26
  · exact no_ H
  replace H : impl_MergesOk.b0 l0 (impl_MergesOk.l0 l0 k26) k26 i12 = some o10 := H
  unfold impl_MergesOk.b0 at H
  refine sr_ fun _ hK27 => ?_
  exact by (
  refine b_ bin_lss ?_
  refine dn_ hK27 ?_
  clear hK27
  refine WC.seq fun _ hK28 => ?_
  rcases eti_ H with ⟨c29, H⟩ | ⟨c29, H⟩
  · refine wn_ (dF c29) ?_
    exact by (
    refine WC.exit ?_
    obtain rfl := os H
    exact WQ.via2 (fun _ _ h_ => h_) X13 ⟨i12, rfl, Ho11, (St.pick HS (fun W_ h_ => ⟨AllF.get 0 rfl h_, trivial⟩) (fun W_ h_ => trivial))⟩ ⟨rfl, rfl, rfl, rfl, trivial⟩ )
  refine wy_ (dT c29) ?_
  refine WC.skip ?_
  refine via_ hK28 ?_
  exact by (
  clear hK28
  refine WC.seq fun _ hK30 => ?_
  refine WC.block ?_
  refine sr_ fun _ hK31 => ?_
  refine mv_ ?_
  obtain ⟨⟨q32, q33⟩, H⟩ := if_some H
  exact by (
  obtain ⟨ad34, rfl⟩ := C_open (HS.getO 0 rfl) (by omega)
  refine v_ (ia_ Try.underlying34 2 q32 q33) ?_
  obtain ⟨e35, el36, HS⟩ := HS.elO 0 rfl (by decide) o112 i12 q32 q33
  refine v_ (Run.loadS (cs := [.int .i64 ((l0.getD i12.toNat o112).f0), .int .i64 ((l0.getD i12.toNat o112).f1)]) rfl rfl Try.underlying112 rfl (by kernel_rfl) (cells_part (HS.getO 0 rfl).2 (part_cons (at112_0 (AtK.whole (HS.getO 0 rfl).1)).int (part_cons (at112_1 (AtK.whole (HS.getO 0 rfl).1)).int part_nil)))) ?_
  refine WL.alloc HS (v := .agg #[.int .i64 0, .int .i64 0]) (cs := #[.int .i64 0, .int .i64 0]) rfl rfl (by decide) rfl (by kernel_rfl) rfl (fun b37 w38 hb37 HS => ?_)
  refine as_ ?_
  exact by (
  refine WL.storeS HS 0 (vs := [.int .i64 ((l0.getD i12.toNat o112).f0), .int .i64 ((l0.getD i12.toNat o112).f1)]) rfl rfl rfl rfl rfl rfl (one_cons rfl (one_cons rfl one_nil)) (by kernel_rfl) (Nat.le_of_ble_eq_true rfl) (cs' := #[.int .i64 ((l0.getD i12.toNat o112).f0), .int .i64 ((l0.getD i12.toNat o112).f1)]) (by kernel_rfl) (fun w39 HS => ?_)
  dsimp only [List.set] at HS
  refine dn_ hK31 ?_
  clear hK31
  refine WC.seq fun _ hK40 => ?_
  refine WC.drawS HS [] rfl rfl (fun w41 HS => ?_)
  exact by (
  have HB := Below.refl w41.heap.size w41
  have HSW := HS
  refine dm_ 0 ?_
  refine dm_ 1 ?_
  obtain ⟨⟨q42, q43⟩, H⟩ := if_some H
  obtain ⟨A44, c45, he46, le47, hf48⟩ := slc_take k112 (some ad34) c0 l0 i12 q42 q43 hc0
  exact by (
  replace HS := HS.deriveO (p := (fun W => k112.C W A44 (l0.take i12.toNat).length (l0.take i12.toNat))) (fun W_ hO_ hN_ => hf48 W_ (AllF.get 1 rfl hO_))
  refine dp_ 2 (fun _ => Run.eqv he46 (Run.slH rfl Try.underlying34 (by kernel_rfl) rfl rfl q42 (Int.le_trans q43 (Int.ofNat_le.mpr hc0)))) ?_
  refine dt_ 3 (Below.refl _ _) (fun w_ hw_ => Run.loadS (cs := [.int .i64 ((l0.getD i12.toNat o112).f0), .int .i64 ((l0.getD i12.toNat o112).f1)]) rfl rfl Try.underlying112 rfl (by kernel_rfl) (box_part ((HS.below hw_).mu 0 rfl) part_all)) ?_
  obtain ⟨t49, ha50, H⟩ := bind_some H
  refine dcs_ HS HB 4 (w_none rfl) Try.func122 (impl_Merge_122.calls k26 A44 c45 (l0.take i12.toNat) ((l0.getD i12.toNat o112).f0) ((l0.getD i12.toNat o112).f1) t49 _ (HS.getO 0 rfl) le47 ha50) (fun w51 HS HB => ?_)
  clear ha50
  exact by (
  refine dd_ ?_
  clear HB HSW
  refine via_ hK40 ?_
  clear hK40
  rcases ite_ H with ⟨c52, H⟩ | ⟨c52, H⟩
  · refine wy_ c52 ?_
    exact by (
    refine sr_ fun _ hK53 => ?_
    refine as_ ?_
    refine dn_ hK53 ?_
    clear hK53
    refine WC.ret ?_
    obtain rfl := os H
    exact by (
    rw [hG9] at Ho11
    replace H : some _ = some _ := Ho11
    obtain rfl := os H
    exact fin1 Try.f71 rfl rfl hR_ ⟨rfl, HS.b⟩ ))
  refine wn_ (bF c52) ?_
  refine WC.skip ?_
  exact by (
  refine via_ hK30 ?_
  clear hK30
  refine rg_ ?_
  refine b_ bin_add64 ?_
  refine mv_ ?_
  refine WL.done ?_
  exact WQ.round k26 (fun _ _ h_ => h_) (Nat.lt_succ_self _) ⟨(wrap64 (i12 + 1)), rfl, ⟨_, H, Ho11⟩, (St.pick (St.forget HS 0 rfl) (fun W_ h_ => ⟨AllF.get 2 rfl h_, trivial⟩) (fun W_ h_ => trivial))⟩ ⟨rfl, rfl, rfl, rfl, trivial⟩ )))))))))))))
def impl_ModelOk_1.g (k : Nat) (l0 : List Int) (x1 : S39) : Option Bool := (if (l0.length : Int) = x1.f0 then ((impl_allIn.f l0 (-127) 127).bind fun t4 => (some (!t4))) else (some true))
theorem impl_ModelOk_1.runs (k : Nat) (A0 : Option Addr) (c0 : Nat) (l0 : List Int) (b1 : Nat) (cs1 : List Value) (x1 : S39) (r : Bool) (w : World) (hr0 : (Kd.int .i64).C w A0 l0.length l0) (hc0 : l0.length ≤ c0) (hk1 : k39.K w x1 cs1) (hb1 : w.heap[b1]? = some (.cells cs1.toArray 39 (0, 0))) (H : impl_ModelOk_1.g k l0 x1 = some r) :
    Calls Try.prog 73 #[.slice A0 l0.length c0, .pointer (some ⟨b1, 0, none⟩)] w fun e w' => e = .returned (.bool r) ∧ Below w.heap.size w w' := by
  have el1 : cs1.length = 14 := k39.K_len hk1
  unfold impl_ModelOk_1.g at H
  have HS : St (fun _ => True) w w [] [(fun W => (Kd.int .i64).C W A0 l0.length l0), (fun W => k39.K W x1 cs1), (fun W => W.heap[b1]? = some (.cells cs1.toArray 39 (0, 0)))] [] := St.start (foot_cons (foot_C (Kd.heap_int _) hr0) (foot_cons (foot_K h39 hk1) (foot_cons (foot_rob hb1) foot_nil)))
  refine cw_ (n := 14) Try.func73 fun R_ hR_ => ?_
  refine sr_ fun _ hK1 => ?_
  refine as_ ?_
  exact by (
  refine dn_ hK1 ?_
  clear hK1
  refine sr_ fun _ hK2 => ?_
  refine mv_ ?_
  refine ln_ Try.underlying25 ?_
  refine v_ (fa_ Try.underlying39) ?_
  exact by (
  refine v_ (lb_ (HS.getO 2 rfl) Try.underlying3 (at39_0 (HS.aO 1 rfl)).int) ?_
  refine b_ bin_neq ?_
  refine mv_ ?_
  rcases eti_ H with ⟨c3, H⟩ | ⟨c3, H⟩
  · refine off_ (c' := true) (qT c3) ?_
    refine WL.know 9 (qT c3) ?_
    exact by (
    refine fast_ ?_
    refine via_ hK2 ?_
    clear hK2
    obtain rfl := os H
    exact rt1 Try.f73 rfl rfl hR_ ⟨rfl, HS.b⟩ )
  refine on_ (qF c3) ?_
  exact by (
  refine mv_ ?_
  refine on_ (qF c3) ?_
  obtain ⟨t4, ha5, H⟩ := bind_some H
  refine cs_ HS Try.func74 (impl_allIn.calls A0 c0 l0 (-127) 127 t4 _ (HS.getO 0 rfl) hc0 ha5) (fun w6 HS => ?_)
  clear ha5
  refine on_ (qF c3) ?_
  exact by (
  refine nt_ ?_
  refine v_ (Run.pickF rfl rfl (qF c3) rfl) ?_
  refine as_ ?_
  refine dn_ hK2 ?_
  clear hK2
  obtain rfl := os H
  exact rt1 Try.f73 rfl rfl hR_ ⟨rfl, HS.b⟩ ))))
def slices_IndexFunc_int_int_73.b0 (l0 : List (List Int)) (x1c0 : S39) (rec_ : Int → Option (Int ⊕ Int)) (k14 : Nat) (i8 : Int) : Option (Int ⊕ Int) := (if i8 < (l0.length : Int) then (if 0 ≤ i8 ∧ i8 < (l0.length : Int) then ((impl_ModelOk_1.g k14 (l0.getD i8.toNat []) x1c0).bind fun t27 => (if t27 = true then (some (Sum.inl i8)) else (rec_ (wrap64 (i8 + 1))))) else none) else (some (Sum.inr i8)))
def slices_IndexFunc_int_int_73.l0 (l0 : List (List Int)) (x1c0 : S39) : Nat → Int → Option (Int ⊕ Int)
  | 0, _ => none
  | k + 1, i8 => slices_IndexFunc_int_int_73.b0 l0 x1c0 (slices_IndexFunc_int_int_73.l0 l0 x1c0 k) k i8
def slices_IndexFunc_int_int_73.g (k : Nat) (l0 : List (List Int)) (x1c0 : S39) : Option Int := ((slices_IndexFunc_int_int_73.l0 l0 x1c0 k 0).bind (fun o12 => match o12 with | .inl r_ => some r_ | .inr i8 => (some (-1))))
theorem slices_IndexFunc_int_int_73.runs (k : Nat) (A0 : Option Addr) (c0 : Nat) (l0 : List (List Int)) (b1c0 : Nat) (cs1c0 : List Value) (x1c0 : S39) (r : Int) (w : World) (hr0 : (Kd.slice 3 (Kd.int .i64)).C w A0 l0.length l0) (hc0 : l0.length ≤ c0) (hk1c0 : k39.K w x1c0 cs1c0) (hb1c0 : w.heap[b1c0]? = some (.cells cs1c0.toArray 39 (0, 0))) (H : slices_IndexFunc_int_int_73.g k l0 x1c0 = some r) :
    Calls Try.prog 124 #[.slice A0 l0.length c0, .func (.func 73) #[] #[.pointer (some ⟨b1c0, 0, none⟩)]] w fun e w' => e = .returned (.int .i64 r) ∧ Below w.heap.size w w' := by
  have el1c0 : cs1c0.length = 14 := k39.K_len hk1c0
  unfold slices_IndexFunc_int_int_73.g at H
  have HS : St (fun _ => True) w w [] [(fun W => (Kd.slice 3 (Kd.int .i64)).C W A0 l0.length l0), (fun W => k39.K W x1c0 cs1c0), (fun W => W.heap[b1c0]? = some (.cells cs1c0.toArray 39 (0, 0)))] [] := St.start (foot_cons (foot_C (Kd.heap_slice _ (Kd.heap_int _)) hr0) (foot_cons (foot_K h39 hk1c0) (foot_cons (foot_rob hb1c0) foot_nil)))
  refine cw_ (n := 19) Try.func124 fun R_ hR_ => ?_
  refine sr_ fun _ hK1 => ?_
  refine as_ ?_
  exact by (
  refine dn_ hK1 ?_
  clear hK1
  refine WC.seq fun K2 hK2 => ?_
  refine sr_ fun _ hK3 => ?_
  refine mv_ ?_
  refine ln_ Try.underlying23 ?_
  exact by (
  refine mv_ ?_
  refine dn_ hK3 ?_
  clear hK3
  refine WC.block ?_
  obtain ⟨G4, hG5, o6, H, Ho7⟩ := open_G H
  have X9 : ∀ E_ W_, (∃ (i8 : Int), E_ = [(0, .slice A0 l0.length c0), (1, .func (.func 73) #[] #[.pointer (some ⟨b1c0, 0, none⟩)]), (7, .int .i64 (l0.length : Int)), (8, .int .i64 i8)] ∧ G4 (Sum.inr i8) = some r ∧ St (fun _ => True) w W_ [] [(fun W => (Kd.slice 3 (Kd.int .i64)).C W A0 l0.length l0), (fun W => k39.K W x1c0 cs1c0), (fun W => W.heap[b1c0]? = some (.cells cs1c0.toArray 39 (0, 0)))] []) → ∀ a, Fits a 19 E_ → K2 a W_ := by
    exact by (
    rintro E_ w10 ⟨i8, rfl, H, HS⟩
    rw [hG5] at H
    (try dsimp only at H)
    refine hK2 _ _ ?_
    clear hK2
    refine sr_ fun _ hK11 => ?_
    exact by (
    refine as_ ?_
    refine dn_ hK11 ?_
    clear hK11
    obtain rfl := os H
    exact rt1 Try.f124 rfl rfl hR_ ⟨rfl, HS.b⟩ ))
  clear hK2
  exact by (
  refine WC.loop (fun k_ E_ W_ => ∃ (i8 : Int), E_ = [(0, .slice A0 l0.length c0), (1, .func (.func 73) #[] #[.pointer (some ⟨b1c0, 0, none⟩)]), (7, .int .i64 (l0.length : Int)), (8, .int .i64 i8)] ∧ (∃ o_, slices_IndexFunc_int_int_73.l0 l0 x1c0 k_ i8 = some o_ ∧ G4 o_ = some r) ∧ St (fun _ => True) w W_ [] [(fun W => (Kd.slice 3 (Kd.int .i64)).C W A0 l0.length l0), (fun W => k39.K W x1c0 cs1c0), (fun W => W.heap[b1c0]? = some (.cells cs1c0.toArray 39 (0, 0)))] []) k ⟨0, rfl, ⟨_, H, Ho7⟩, (St.pick HS (fun W_ h_ => ⟨AllF.get 0 rfl h_, AllF.get 1 rfl h_, AllF.get 2 rfl h_, trivial⟩) (fun W_ h_ => trivial))⟩ ⟨rfl, rfl, rfl, rfl, trivial⟩ ?_
  rintro k_ E_ w13 ⟨i8, rfl, ⟨o6, H, Ho7⟩, HS⟩
  rcases k_ with _ | k14
  · exact no_ H
  replace H : slices_IndexFunc_int_int_73.b0 l0 x1c0 (slices_IndexFunc_int_int_73.l0 l0 x1c0 k14) k14 i8 = some o6 := H
  unfold slices_IndexFunc_int_int_73.b0 at H
  exact by (
  refine sr_ fun _ hK15 => ?_
  refine b_ bin_lss ?_
  refine dn_ hK15 ?_
  clear hK15
  refine WC.seq fun _ hK16 => ?_
  rcases eti_ H with ⟨c17, H⟩ | ⟨c17, H⟩
  · refine wn_ (dF c17) ?_
    exact by (
    refine WC.exit ?_
    obtain rfl := os H
    exact WQ.via2 (fun _ _ h_ => h_) X9 ⟨i8, rfl, Ho7, (St.pick HS (fun W_ h_ => ⟨AllF.get 0 rfl h_, AllF.get 1 rfl h_, AllF.get 2 rfl h_, trivial⟩) (fun W_ h_ => trivial))⟩ ⟨rfl, rfl, rfl, rfl, trivial⟩ )
  refine wy_ (dT c17) ?_
  refine WC.skip ?_
  refine via_ hK16 ?_
  exact by (
  clear hK16
  refine WC.seq fun _ hK18 => ?_
  refine WC.block ?_
  refine sr_ fun _ hK19 => ?_
  refine mv_ ?_
  refine as_ ?_
  exact by (
  refine dn_ hK19 ?_
  clear hK19
  refine sr_ fun _ hK20 => ?_
  refine mv_ ?_
  refine mv_ ?_
  refine mv_ ?_
  exact by (
  obtain ⟨⟨q21, q22⟩, H⟩ := if_some H
  obtain ⟨ad23, rfl⟩ := C_open (HS.getO 0 rfl) (by omega)
  refine v_ (ia_ Try.underlying23 1 q21 q22) ?_
  obtain ⟨A24, c25, le26, HS⟩ := HS.slO 0 rfl i8 q21 q22
  refine v_ (Run.load rfl rfl Try.underlying25 rfl (HS.getO 1 rfl)) ?_
  obtain ⟨t27, ha28, H⟩ := bind_some H
  exact by (
  refine cv_ (args := [.slice A24 ((l0.getD i8.toNat []).length) c25]) (cap := [.pointer (some ⟨b1c0, 0, none⟩)]) Try.func73 (impl_ModelOk_1.runs k14 A24 c25 (l0.getD i8.toNat []) b1c0 cs1c0 x1c0 t27 _ (HS.getO 0 rfl) le26 (HS.getO 3 rfl) (HS.getO 4 rfl) ha28) ?_
  clear ha28
  rintro _ w29 ⟨rfl, hb⟩
  replace HS := HS.below hb
  refine ⟨_, rfl, ?_⟩
  clear hb
  exact by (
  refine dn_ hK20 ?_
  clear hK20
  rcases ite_ H with ⟨c30, H⟩ | ⟨c30, H⟩
  · refine wy_ c30 ?_
    refine sr_ fun _ hK31 => ?_
    refine mv_ ?_
    exact by (
    refine as_ ?_
    refine dn_ hK31 ?_
    clear hK31
    refine WC.ret ?_
    obtain rfl := os H
    rw [hG5] at Ho7
    exact by (
    replace H : some _ = some _ := Ho7
    obtain rfl := os H
    exact fin1 Try.f124 rfl rfl hR_ ⟨rfl, HS.b⟩ ))
  refine wn_ (bF c30) ?_
  refine WC.skip ?_
  refine via_ hK18 ?_
  exact by (
  clear hK18
  refine rg_ ?_
  refine b_ bin_add64 ?_
  refine mv_ ?_
  refine WL.done ?_
  exact WQ.round k14 (fun _ _ h_ => h_) (Nat.lt_succ_self _) ⟨(wrap64 (i8 + 1)), rfl, ⟨_, H, Ho7⟩, (St.pick HS (fun W_ h_ => ⟨AllF.get 2 rfl h_, AllF.get 3 rfl h_, AllF.get 4 rfl h_, trivial⟩) (fun W_ h_ => trivial))⟩ ⟨rfl, rfl, rfl, rfl, trivial⟩ ))))))))))
def slices_ContainsFunc_int_int_73.g (k : Nat) (l0 : List (List Int)) (x1c0 : S39) : Option Bool := ((slices_IndexFunc_int_int_73.g k l0 x1c0).bind fun t3 => (some (decide (t3 ≥ 0))))
theorem slices_ContainsFunc_int_int_73.runs (k : Nat) (A0 : Option Addr) (c0 : Nat) (l0 : List (List Int)) (b1c0 : Nat) (cs1c0 : List Value) (x1c0 : S39) (r : Bool) (w : World) (hr0 : (Kd.slice 3 (Kd.int .i64)).C w A0 l0.length l0) (hc0 : l0.length ≤ c0) (hk1c0 : k39.K w x1c0 cs1c0) (hb1c0 : w.heap[b1c0]? = some (.cells cs1c0.toArray 39 (0, 0))) (H : slices_ContainsFunc_int_int_73.g k l0 x1c0 = some r) :
    Calls Try.prog 72 #[.slice A0 l0.length c0, .func (.func 73) #[] #[.pointer (some ⟨b1c0, 0, none⟩)]] w fun e w' => e = .returned (.bool r) ∧ Below w.heap.size w w' := by
  have el1c0 : cs1c0.length = 14 := k39.K_len hk1c0
  unfold slices_ContainsFunc_int_int_73.g at H
  have HS : St (fun _ => True) w w [] [(fun W => (Kd.slice 3 (Kd.int .i64)).C W A0 l0.length l0), (fun W => k39.K W x1c0 cs1c0), (fun W => W.heap[b1c0]? = some (.cells cs1c0.toArray 39 (0, 0)))] [] := St.start (foot_cons (foot_C (Kd.heap_slice _ (Kd.heap_int _)) hr0) (foot_cons (foot_K h39 hk1c0) (foot_cons (foot_rob hb1c0) foot_nil)))
  refine cw_ (n := 9) Try.func72 fun R_ hR_ => ?_
  refine sr_ fun _ hK1 => ?_
  refine as_ ?_
  exact by (
  refine dn_ hK1 ?_
  clear hK1
  refine sr_ fun _ hK2 => ?_
  refine mv_ ?_
  refine mv_ ?_
  obtain ⟨t3, ha4, H⟩ := bind_some H
  exact by (
  refine cs_ HS Try.func124 (slices_IndexFunc_int_int_73.runs k A0 c0 l0 b1c0 cs1c0 x1c0 t3 _ (HS.getO 0 rfl) hc0 (HS.getO 1 rfl) (HS.getO 2 rfl) ha4) (fun w5 HS => ?_)
  clear ha4
  refine b_ bin_geq ?_
  refine as_ ?_
  refine dn_ hK2 ?_
  clear hK2
  obtain rfl := os H
  exact rt1 Try.f72 rfl rfl hR_ ⟨rfl, HS.b⟩ ))
def impl_ModelOk_2.g (k : Nat) (x0 : S48) (x1 : S39) : Option Bool := ((impl_LayerOk.g k x0 x1.f0).bind fun t5 => (some (!t5)))
theorem impl_ModelOk_2.runs (k : Nat) (cs0 : List Value) (x0 : S48) (b1 : Nat) (cs1 : List Value) (x1 : S39) (r : Bool) (w : World) (hk0 : k48.K w x0 cs0) (hk1 : k39.K w x1 cs1) (hb1 : w.heap[b1]? = some (.cells cs1.toArray 39 (0, 0))) (H : impl_ModelOk_2.g k x0 x1 = some r) :
    Calls Try.prog 76 #[.agg cs0.toArray, .pointer (some ⟨b1, 0, none⟩)] w fun e w' => e = .returned (.bool r) ∧ Below w.heap.size w w' := by
  have el0 : cs0.length = 32 := k48.K_len hk0
  have el1 : cs1.length = 14 := k39.K_len hk1
  unfold impl_ModelOk_2.g at H
  have HS : St (fun _ => True) w w [] [(fun W => k48.K W x0 cs0), (fun W => k39.K W x1 cs1), (fun W => W.heap[b1]? = some (.cells cs1.toArray 39 (0, 0)))] [] := St.start (foot_cons (foot_K h48 hk0) (foot_cons (foot_K h39 hk1) (foot_cons (foot_rob hb1) foot_nil)))
  refine cw_ (n := 9) Try.func76 fun R_ hR_ => ?_
  refine sr_ fun _ hK1 => ?_
  exact by (
  refine bo_ HS (fun b2 w3 hb2 HS => ?_)
  refine as_ ?_
  refine dn_ hK1 ?_
  clear hK1
  refine sr_ fun _ hK4 => ?_
  refine v_ (Run.loadS (cs := cs0) rfl rfl Try.underlying48 rfl (by rw [el0]; kernel_rfl) (box_part (HS.mu 0 rfl) part_all)) ?_
  exact by (
  refine v_ (fa_ Try.underlying39) ?_
  refine v_ (lb_ (HS.getO 2 rfl) Try.underlying3 (at39_0 (HS.aO 1 rfl)).int) ?_
  obtain ⟨t5, ha6, H⟩ := bind_some H
  refine cs_ HS Try.func22 (impl_LayerOk.runs k cs0 x0 x1.f0 t5 _ (HS.getO 0 rfl) ha6) (fun w7 HS => ?_)
  clear ha6
  refine nt_ ?_
  exact by (
  refine as_ ?_
  refine dn_ hK4 ?_
  clear hK4
  obtain rfl := os H
  exact rt1 Try.f76 rfl rfl hR_ ⟨rfl, HS.b⟩ )))
def slices_IndexFunc_impl_Layer_impl_Layer_76.b0 (l0 : List S48) (x1c0 : S39) (rec_ : Int → Option (Int ⊕ Int)) (k14 : Nat) (i8 : Int) : Option (Int ⊕ Int) := (if i8 < (l0.length : Int) then (if 0 ≤ i8 ∧ i8 < (l0.length : Int) then ((impl_ModelOk_2.g k14 (l0.getD i8.toNat o48) x1c0).bind fun t26 => (if t26 = true then (some (Sum.inl i8)) else (rec_ (wrap64 (i8 + 1))))) else none) else (some (Sum.inr i8)))
def slices_IndexFunc_impl_Layer_impl_Layer_76.l0 (l0 : List S48) (x1c0 : S39) : Nat → Int → Option (Int ⊕ Int)
  | 0, _ => none
  | k + 1, i8 => slices_IndexFunc_impl_Layer_impl_Layer_76.b0 l0 x1c0 (slices_IndexFunc_impl_Layer_impl_Layer_76.l0 l0 x1c0 k) k i8
def slices_IndexFunc_impl_Layer_impl_Layer_76.g (k : Nat) (l0 : List S48) (x1c0 : S39) : Option Int := ((slices_IndexFunc_impl_Layer_impl_Layer_76.l0 l0 x1c0 k 0).bind (fun o12 => match o12 with | .inl r_ => some r_ | .inr i8 => (some (-1))))
theorem slices_IndexFunc_impl_Layer_impl_Layer_76.runs (k : Nat) (A0 : Option Addr) (c0 : Nat) (l0 : List S48) (b1c0 : Nat) (cs1c0 : List Value) (x1c0 : S39) (r : Int) (w : World) (hr0 : k48.C w A0 l0.length l0) (hc0 : l0.length ≤ c0) (hk1c0 : k39.K w x1c0 cs1c0) (hb1c0 : w.heap[b1c0]? = some (.cells cs1c0.toArray 39 (0, 0))) (H : slices_IndexFunc_impl_Layer_impl_Layer_76.g k l0 x1c0 = some r) :
    Calls Try.prog 127 #[.slice A0 l0.length c0, .func (.func 76) #[] #[.pointer (some ⟨b1c0, 0, none⟩)]] w fun e w' => e = .returned (.int .i64 r) ∧ Below w.heap.size w w' := by
  have el1c0 : cs1c0.length = 14 := k39.K_len hk1c0
  unfold slices_IndexFunc_impl_Layer_impl_Layer_76.g at H
  have HS : St (fun _ => True) w w [] [(fun W => k48.C W A0 l0.length l0), (fun W => k39.K W x1c0 cs1c0), (fun W => W.heap[b1c0]? = some (.cells cs1c0.toArray 39 (0, 0)))] [] := St.start (foot_cons (foot_C h48 hr0) (foot_cons (foot_K h39 hk1c0) (foot_cons (foot_rob hb1c0) foot_nil)))
  refine cw_ (n := 19) Try.func127 fun R_ hR_ => ?_
  refine sr_ fun _ hK1 => ?_
  refine as_ ?_
  exact by (
  refine dn_ hK1 ?_
  clear hK1
  refine WC.seq fun K2 hK2 => ?_
  refine sr_ fun _ hK3 => ?_
  refine mv_ ?_
  refine ln_ Try.underlying35 ?_
  exact by (
  refine mv_ ?_
  refine dn_ hK3 ?_
  clear hK3
  refine WC.block ?_
  obtain ⟨G4, hG5, o6, H, Ho7⟩ := open_G H
  have X9 : ∀ E_ W_, (∃ (i8 : Int), E_ = [(0, .slice A0 l0.length c0), (1, .func (.func 76) #[] #[.pointer (some ⟨b1c0, 0, none⟩)]), (7, .int .i64 (l0.length : Int)), (8, .int .i64 i8)] ∧ G4 (Sum.inr i8) = some r ∧ St (fun _ => True) w W_ [] [(fun W => k48.C W A0 l0.length l0), (fun W => k39.K W x1c0 cs1c0), (fun W => W.heap[b1c0]? = some (.cells cs1c0.toArray 39 (0, 0)))] []) → ∀ a, Fits a 19 E_ → K2 a W_ := by
    exact by (
    rintro E_ w10 ⟨i8, rfl, H, HS⟩
    rw [hG5] at H
    (try dsimp only at H)
    refine hK2 _ _ ?_
    clear hK2
    refine sr_ fun _ hK11 => ?_
    exact by (
    refine as_ ?_
    refine dn_ hK11 ?_
    clear hK11
    obtain rfl := os H
    exact rt1 Try.f127 rfl rfl hR_ ⟨rfl, HS.b⟩ ))
  clear hK2
  exact by (
  refine WC.loop (fun k_ E_ W_ => ∃ (i8 : Int), E_ = [(0, .slice A0 l0.length c0), (1, .func (.func 76) #[] #[.pointer (some ⟨b1c0, 0, none⟩)]), (7, .int .i64 (l0.length : Int)), (8, .int .i64 i8)] ∧ (∃ o_, slices_IndexFunc_impl_Layer_impl_Layer_76.l0 l0 x1c0 k_ i8 = some o_ ∧ G4 o_ = some r) ∧ St (fun _ => True) w W_ [] [(fun W => k48.C W A0 l0.length l0), (fun W => k39.K W x1c0 cs1c0), (fun W => W.heap[b1c0]? = some (.cells cs1c0.toArray 39 (0, 0)))] []) k ⟨0, rfl, ⟨_, H, Ho7⟩, (St.pick HS (fun W_ h_ => ⟨AllF.get 0 rfl h_, AllF.get 1 rfl h_, AllF.get 2 rfl h_, trivial⟩) (fun W_ h_ => trivial))⟩ ⟨rfl, rfl, rfl, rfl, trivial⟩ ?_
  rintro k_ E_ w13 ⟨i8, rfl, ⟨o6, H, Ho7⟩, HS⟩
  rcases k_ with _ | k14
  · exact no_ H
  replace H : slices_IndexFunc_impl_Layer_impl_Layer_76.b0 l0 x1c0 (slices_IndexFunc_impl_Layer_impl_Layer_76.l0 l0 x1c0 k14) k14 i8 = some o6 := H
  unfold slices_IndexFunc_impl_Layer_impl_Layer_76.b0 at H
  exact by (
  refine sr_ fun _ hK15 => ?_
  refine b_ bin_lss ?_
  refine dn_ hK15 ?_
  clear hK15
  refine WC.seq fun _ hK16 => ?_
  rcases eti_ H with ⟨c17, H⟩ | ⟨c17, H⟩
  · refine wn_ (dF c17) ?_
    exact by (
    refine WC.exit ?_
    obtain rfl := os H
    exact WQ.via2 (fun _ _ h_ => h_) X9 ⟨i8, rfl, Ho7, (St.pick HS (fun W_ h_ => ⟨AllF.get 0 rfl h_, AllF.get 1 rfl h_, AllF.get 2 rfl h_, trivial⟩) (fun W_ h_ => trivial))⟩ ⟨rfl, rfl, rfl, rfl, trivial⟩ )
  refine wy_ (dT c17) ?_
  refine WC.skip ?_
  refine via_ hK16 ?_
  exact by (
  clear hK16
  refine WC.seq fun _ hK18 => ?_
  refine WC.block ?_
  refine sr_ fun _ hK19 => ?_
  refine mv_ ?_
  refine as_ ?_
  exact by (
  refine dn_ hK19 ?_
  clear hK19
  refine sr_ fun _ hK20 => ?_
  refine mv_ ?_
  refine mv_ ?_
  refine mv_ ?_
  exact by (
  obtain ⟨⟨q21, q22⟩, H⟩ := if_some H
  obtain ⟨ad23, rfl⟩ := C_open (HS.getO 0 rfl) (by omega)
  refine v_ (ia_ Try.underlying35 32 q21 q22) ?_
  obtain ⟨e24, el25, HS⟩ := HS.elO 0 rfl (by decide) o48 i8 q21 q22
  replace HS := HS.deriveO (p := (fun W => k48.K W (l0.getD i8.toNat o48) e24)) (fun W_ hO_ hN_ => (AllF.get 0 rfl hO_).1)
  refine v_ (Run.loadS (cs := e24) rfl rfl Try.underlying48 rfl (by rw [el25]; kernel_rfl) (HS.getO 1 rfl).2) ?_
  exact by (
  obtain ⟨t26, ha27, H⟩ := bind_some H
  refine cv_ (args := [.agg e24.toArray]) (cap := [.pointer (some ⟨b1c0, 0, none⟩)]) Try.func76 (impl_ModelOk_2.runs k14 e24 (l0.getD i8.toNat o48) b1c0 cs1c0 x1c0 t26 _ (HS.getO 0 rfl) (HS.getO 3 rfl) (HS.getO 4 rfl) ha27) ?_
  clear ha27
  rintro _ w28 ⟨rfl, hb⟩
  replace HS := HS.below hb
  refine ⟨_, rfl, ?_⟩
  exact by (
  clear hb
  refine dn_ hK20 ?_
  clear hK20
  rcases ite_ H with ⟨c29, H⟩ | ⟨c29, H⟩
  · refine wy_ c29 ?_
    refine sr_ fun _ hK30 => ?_
    exact by (
    refine mv_ ?_
    refine as_ ?_
    refine dn_ hK30 ?_
    clear hK30
    refine WC.ret ?_
    obtain rfl := os H
    exact by (
    rw [hG5] at Ho7
    replace H : some _ = some _ := Ho7
    obtain rfl := os H
    exact fin1 Try.f127 rfl rfl hR_ ⟨rfl, HS.b⟩ ))
  refine wn_ (bF c29) ?_
  refine WC.skip ?_
  exact by (
  refine via_ hK18 ?_
  clear hK18
  refine rg_ ?_
  refine b_ bin_add64 ?_
  refine mv_ ?_
  refine WL.done ?_
  exact WQ.round k14 (fun _ _ h_ => h_) (Nat.lt_succ_self _) ⟨(wrap64 (i8 + 1)), rfl, ⟨_, H, Ho7⟩, (St.pick HS (fun W_ h_ => ⟨AllF.get 2 rfl h_, AllF.get 3 rfl h_, AllF.get 4 rfl h_, trivial⟩) (fun W_ h_ => trivial))⟩ ⟨rfl, rfl, rfl, rfl, trivial⟩ ))))))))))
def slices_ContainsFunc_impl_Layer_impl_Layer_76.g (k : Nat) (l0 : List S48) (x1c0 : S39) : Option Bool := ((slices_IndexFunc_impl_Layer_impl_Layer_76.g k l0 x1c0).bind fun t3 => (some (decide (t3 ≥ 0))))
theorem slices_ContainsFunc_impl_Layer_impl_Layer_76.runs (k : Nat) (A0 : Option Addr) (c0 : Nat) (l0 : List S48) (b1c0 : Nat) (cs1c0 : List Value) (x1c0 : S39) (r : Bool) (w : World) (hr0 : k48.C w A0 l0.length l0) (hc0 : l0.length ≤ c0) (hk1c0 : k39.K w x1c0 cs1c0) (hb1c0 : w.heap[b1c0]? = some (.cells cs1c0.toArray 39 (0, 0))) (H : slices_ContainsFunc_impl_Layer_impl_Layer_76.g k l0 x1c0 = some r) :
    Calls Try.prog 75 #[.slice A0 l0.length c0, .func (.func 76) #[] #[.pointer (some ⟨b1c0, 0, none⟩)]] w fun e w' => e = .returned (.bool r) ∧ Below w.heap.size w w' := by
  have el1c0 : cs1c0.length = 14 := k39.K_len hk1c0
  unfold slices_ContainsFunc_impl_Layer_impl_Layer_76.g at H
  have HS : St (fun _ => True) w w [] [(fun W => k48.C W A0 l0.length l0), (fun W => k39.K W x1c0 cs1c0), (fun W => W.heap[b1c0]? = some (.cells cs1c0.toArray 39 (0, 0)))] [] := St.start (foot_cons (foot_C h48 hr0) (foot_cons (foot_K h39 hk1c0) (foot_cons (foot_rob hb1c0) foot_nil)))
  refine cw_ (n := 9) Try.func75 fun R_ hR_ => ?_
  refine sr_ fun _ hK1 => ?_
  refine as_ ?_
  exact by (
  refine dn_ hK1 ?_
  clear hK1
  refine sr_ fun _ hK2 => ?_
  refine mv_ ?_
  refine mv_ ?_
  obtain ⟨t3, ha4, H⟩ := bind_some H
  exact by (
  refine cs_ HS Try.func127 (slices_IndexFunc_impl_Layer_impl_Layer_76.runs k A0 c0 l0 b1c0 cs1c0 x1c0 t3 _ (HS.getO 0 rfl) hc0 (HS.getO 1 rfl) (HS.getO 2 rfl) ha4) (fun w5 HS => ?_)
  clear ha4
  refine b_ bin_geq ?_
  refine as_ ?_
  refine dn_ hK2 ?_
  clear hK2
  obtain rfl := os H
  exact rt1 Try.f75 rfl rfl hR_ ⟨rfl, HS.b⟩ ))
def impl_ModelOk.g (k : Nat) (x0 : S39) : Option Bool := ((impl_isWidth.f x0.f0).bind fun t7 => (if t7 = true then ((impl_in.f x0.f1 1 2).bind fun t11 => (if t11 = true then ((impl_MergesOk.g k x0.f3).bind fun t19 => (if t19 = true then ((impl_Vocab.g k x0).bind fun t27 => (if (x0.f4.length : Int) = t27 then ((impl_in.f (x0.f5.length : Int) 1 2).bind fun t35 => (if t35 = true then ((slices_ContainsFunc_int_int_73.g k x0.f4 x0).bind fun t41 => (if t41 = true then (some false) else ((slices_ContainsFunc_impl_Layer_impl_Layer_76.g k x0.f5 x0).bind fun t48 => (if t48 = true then (some false) else ((impl_GainOk.f x0.f6 x0.f0).bind fun t59 => (if t59 = true then ((impl_Vocab.g k x0).bind fun t71 => ((impl_withinBudget.f k x0.f7.f0 x0.f7.f1 x0.f7.f2 x0.f7.f3 x0.f7.f4 x0.f0 t71).bind fun t74 => (if t74 = true then (if x0.f1 ≠ 0 then ((impl_TurnsOk.f x0.f8.f0 x0.f8.f1 x0.f2 (wrap64 (Int.tdiv (wrap64 (Int.tdiv x0.f0 x0.f1)) 2))).bind fun t87 => (some t87)) else none) else (some false)))) else (some false))))))) else (some false))) else (some false))) else (some false))) else (some false))) else (some false)))
theorem impl_ModelOk.runs (k : Nat) (cs0 : List Value) (x0 : S39) (r : Bool) (w : World) (hk0 : k39.K w x0 cs0) (H : impl_ModelOk.g k x0 = some r) :
    Calls Try.prog 25 #[.agg cs0.toArray] w fun e w' => e = .returned (.bool r) ∧ Below w.heap.size w w' := by
  have el0 : cs0.length = 14 := k39.K_len hk0
  unfold impl_ModelOk.g at H
  have HS : St (fun _ => True) w w [] [(fun W => k39.K W x0 cs0)] [] := St.start (foot_cons (foot_K h39 hk0) foot_nil)
  refine cw_ (n := 69) Try.func25 fun R_ hR_ => ?_
  refine sr_ fun _ hK1 => ?_
  refine bo_ HS (fun b2 w3 hb2 HS => ?_)
  exact by (
  refine as_ ?_
  refine dn_ hK1 ?_
  clear hK1
  refine WC.seq fun _ hK4 => ?_
  refine WC.seq fun _ hK5 => ?_
  refine WC.drawS HS [] rfl rfl (fun w6 HS => ?_)
  exact by (
  have HB := Below.refl w6.heap.size w6
  have HSW := HS
  refine df_ 0 Try.underlying39 ?_
  refine bl_ 1 HS (Below.refl _ _) 0 Try.underlying3 (at39_0 (HS.aO 0 rfl)).int ?_
  obtain ⟨t7, ha8, H⟩ := bind_some H
  refine dcs0_ HS HB 2 (w_none rfl) Try.func64 (impl_isWidth.calls x0.f0 t7 _ ha8) (fun w9 HS HB => ?_)
  exact by (
  clear ha8
  refine dp_ 3 (fun _ => Run.not rfl rfl) ?_
  refine dm_ 4 ?_
  rcases eti_ H with ⟨c10, H⟩ | ⟨c10, H⟩
  · refine doT_ 5 (nB (bF c10)) ?_
    refine doT_ 6 (nB (bF c10)) ?_
    exact by (
    refine doT_ 7 (nB (bF c10)) ?_
    refine doT_ 8 (nB (bF c10)) ?_
    refine dp_ 9 (fun _ => Run.pickT rfl rfl (nB (bF c10)) rfl) ?_
    refine dm_ 10 ?_
    refine doT_ 11 rfl ?_
    refine doT_ 12 rfl ?_
    exact by (
    refine doT_ 13 rfl ?_
    refine doT_ 14 rfl ?_
    refine dp_ 15 (fun _ => Run.pickT rfl rfl rfl rfl) ?_
    refine dm_ 16 ?_
    refine doT_ 17 rfl ?_
    refine doT_ 18 rfl ?_
    exact by (
    refine doT_ 19 rfl ?_
    refine doT_ 20 rfl ?_
    refine doT_ 21 rfl ?_
    refine doT_ 22 rfl ?_
    refine dp_ 23 (fun _ => Run.pickT rfl rfl rfl rfl) ?_
    refine dm_ 24 ?_
    exact by (
    refine doT_ 25 rfl ?_
    refine doT_ 26 rfl ?_
    refine doT_ 27 rfl ?_
    refine doT_ 28 rfl ?_
    refine doT_ 29 rfl ?_
    refine dp_ 30 (fun _ => Run.pickT rfl rfl rfl rfl) ?_
    exact by (
    refine dd_ ?_
    clear HB HSW
    refine via_ hK5 ?_
    clear hK5
    refine wy_ rfl ?_
    refine sr_ fun _ hK94 => ?_
    exact by (
    refine as_ ?_
    refine dn_ hK94 ?_
    clear hK94
    obtain rfl := os H
    exact rt1 Try.f25 rfl rfl hR_ ⟨rfl, HS.b⟩ ))))))
  refine dfg_ 5 (nB c10) Try.underlying39 ?_
  exact by (
  refine blg_ 6 (nB c10) HSW HB 0 Try.underlying3 (at39_1 (HSW.aO 0 rfl)).int ?_
  obtain ⟨t11, ha12, H⟩ := bind_some H
  refine dcs0_ HS HB 7 (w_on rfl rfl rfl (nB c10)) Try.func70 (impl_in.calls x0.f1 1 2 t11 _ ha12) (fun w13 HS HB => ?_)
  clear ha12
  refine dg_ 8 (nB c10) (fun _ => Run.not rfl rfl) ?_
  refine dp_ 9 (fun _ => Run.pickF rfl rfl (nB c10) rfl) ?_
  exact by (
  refine dm_ 10 ?_
  rcases eti_ H with ⟨c14, H⟩ | ⟨c14, H⟩
  · refine doT_ 11 (nB (bF c14)) ?_
    refine doT_ 12 (nB (bF c14)) ?_
    refine doT_ 13 (nB (bF c14)) ?_
    refine doT_ 14 (nB (bF c14)) ?_
    exact by (
    refine dp_ 15 (fun _ => Run.pickT rfl rfl (nB (bF c14)) rfl) ?_
    refine dm_ 16 ?_
    refine doT_ 17 rfl ?_
    refine doT_ 18 rfl ?_
    refine doT_ 19 rfl ?_
    refine doT_ 20 rfl ?_
    exact by (
    refine doT_ 21 rfl ?_
    refine doT_ 22 rfl ?_
    refine dp_ 23 (fun _ => Run.pickT rfl rfl rfl rfl) ?_
    refine dm_ 24 ?_
    refine doT_ 25 rfl ?_
    refine doT_ 26 rfl ?_
    exact by (
    refine doT_ 27 rfl ?_
    refine doT_ 28 rfl ?_
    refine doT_ 29 rfl ?_
    refine dp_ 30 (fun _ => Run.pickT rfl rfl rfl rfl) ?_
    refine dd_ ?_
    clear HB HSW
    exact by (
    refine via_ hK5 ?_
    clear hK5
    refine wy_ rfl ?_
    refine sr_ fun _ hK93 => ?_
    refine as_ ?_
    refine dn_ hK93 ?_
    exact by (
    clear hK93
    obtain rfl := os H
    exact rt1 Try.f25 rfl rfl hR_ ⟨rfl, HS.b⟩ )))))
  refine dfg_ 11 (nB c14) Try.underlying39 ?_
  obtain ⟨A15, c16, hc17, le18, HS⟩ := HS.sO 0 rfl at39_3
  refine blg_ 12 (nB c14) HSW HB 0 Try.underlying34 hc17 ?_
  exact by (
  obtain ⟨t19, ha20, H⟩ := bind_some H
  refine dcs_ HS HB 13 (w_on rfl rfl rfl (nB c14)) Try.func71 (impl_MergesOk.runs k A15 c16 x0.f3 t19 _ (HS.getO 0 rfl) le18 ha20) (fun w21 HS HB => ?_)
  clear ha20
  refine dg_ 14 (nB c14) (fun _ => Run.not rfl rfl) ?_
  refine dp_ 15 (fun _ => Run.pickF rfl rfl (nB c14) rfl) ?_
  refine dm_ 16 ?_
  exact by (
  rcases eti_ H with ⟨c22, H⟩ | ⟨c22, H⟩
  · refine doT_ 17 (nB (bF c22)) ?_
    refine doT_ 18 (nB (bF c22)) ?_
    refine doT_ 19 (nB (bF c22)) ?_
    refine doT_ 20 (nB (bF c22)) ?_
    refine doT_ 21 (nB (bF c22)) ?_
    exact by (
    refine doT_ 22 (nB (bF c22)) ?_
    refine dp_ 23 (fun _ => Run.pickT rfl rfl (nB (bF c22)) rfl) ?_
    refine dm_ 24 ?_
    refine doT_ 25 rfl ?_
    refine doT_ 26 rfl ?_
    refine doT_ 27 rfl ?_
    exact by (
    refine doT_ 28 rfl ?_
    refine doT_ 29 rfl ?_
    refine dp_ 30 (fun _ => Run.pickT rfl rfl rfl rfl) ?_
    refine dd_ ?_
    clear HB HSW
    refine via_ hK5 ?_
    exact by (
    clear hK5
    refine wy_ rfl ?_
    refine sr_ fun _ hK92 => ?_
    refine as_ ?_
    refine dn_ hK92 ?_
    clear hK92
    obtain rfl := os H
    exact rt1 Try.f25 rfl rfl hR_ ⟨rfl, HS.b⟩ )))
  exact by (
  refine dfg_ 17 (nB c22) Try.underlying39 ?_
  obtain ⟨A23, c24, hc25, le26, HS⟩ := HS.sO 1 rfl at39_4
  refine blg_ 18 (nB c22) HSW HB 0 Try.underlying23 hc25 ?_
  refine dg_ 19 (nB c22) (fun _ => Run.len (ts := #[]) rfl Try.underlying23 rfl) ?_
  refine dh_ 20 (nB c22) HB (fun w_ hw_ => Run.loadS (cs := cs0) rfl rfl Try.underlying39 rfl (by rw [el0]; kernel_rfl) (box_part ((HSW.below hw_).mu 0 rfl) part_all)) ?_
  obtain ⟨t27, ha28, H⟩ := bind_some H
  exact by (
  refine dcs_ HS HB 21 (w_on rfl rfl rfl (nB c22)) Try.func17 (impl_Vocab.runs k cs0 x0 t27 _ (HS.getO 2 rfl) ha28) (fun w29 HS HB => ?_)
  clear ha28
  refine dg_ 22 (nB c22) (fun _ => Run.bin rfl rfl rfl bin_neq) ?_
  refine dp_ 23 (fun _ => Run.pickF rfl rfl (nB c22) rfl) ?_
  refine dm_ 24 ?_
  rcases eti_ H with ⟨c30, H⟩ | ⟨c30, H⟩
  · refine doT_ 25 (qT c30) ?_
    exact by (
    refine doT_ 26 (qT c30) ?_
    refine doT_ 27 (qT c30) ?_
    refine doT_ 28 (qT c30) ?_
    refine doT_ 29 (qT c30) ?_
    refine dp_ 30 (fun _ => Run.pickT rfl rfl (qT c30) rfl) ?_
    refine dd_ ?_
    exact by (
    clear HB HSW
    refine via_ hK5 ?_
    clear hK5
    refine wy_ rfl ?_
    refine sr_ fun _ hK91 => ?_
    refine as_ ?_
    exact by (
    refine dn_ hK91 ?_
    clear hK91
    obtain rfl := os H
    exact rt1 Try.f25 rfl rfl hR_ ⟨rfl, HS.b⟩ )))
  refine dfg_ 25 (qF c30) Try.underlying39 ?_
  obtain ⟨A31, c32, hc33, le34, HS⟩ := HS.sO 2 rfl at39_5
  exact by (
  refine blg_ 26 (qF c30) HSW HB 0 Try.underlying35 hc33 ?_
  refine dg_ 27 (qF c30) (fun _ => Run.len (ts := #[]) rfl Try.underlying35 rfl) ?_
  obtain ⟨t35, ha36, H⟩ := bind_some H
  refine dcs0_ HS HB 28 (w_on rfl rfl rfl (qF c30)) Try.func70 (impl_in.calls (x0.f5.length : Int) 1 2 t35 _ ha36) (fun w37 HS HB => ?_)
  clear ha36
  refine dg_ 29 (qF c30) (fun _ => Run.not rfl rfl) ?_
  exact by (
  refine dp_ 30 (fun _ => Run.pickF rfl rfl (qF c30) rfl) ?_
  refine dd_ ?_
  clear HB HSW
  refine via_ hK5 ?_
  clear hK5
  rcases eti_ H with ⟨c38, H⟩ | ⟨c38, H⟩
  · refine wy_ (nB (bF c38)) ?_
    exact by (
    refine sr_ fun _ hK90 => ?_
    refine as_ ?_
    refine dn_ hK90 ?_
    clear hK90
    obtain rfl := os H
    exact rt1 Try.f25 rfl rfl hR_ ⟨rfl, HS.b⟩ )
  exact by (
  refine wn_ (nB c38) ?_
  refine WC.skip ?_
  refine via_ hK4 ?_
  clear hK4
  refine WC.seq fun _ hK39 => ?_
  refine sr_ fun _ hK40 => ?_
  exact by (
  refine v_ (fa_ Try.underlying39) ?_
  refine v_ (lb_ (HS.mu 0 rfl) Try.underlying23 hc25) ?_
  refine v_ (Run.makeFunc (cap := [.pointer (some ⟨b2, 0, none⟩)]) rfl rfl) ?_
  obtain ⟨t41, ha42, H⟩ := bind_some H
  refine cs_ HS Try.func72 (slices_ContainsFunc_int_int_73.runs k A23 c24 x0.f4 b2 cs0 x0 t41 _ (HS.getO 1 rfl) le26 (HS.getO 3 rfl) (HS.mu 0 rfl) ha42) (fun w43 HS => ?_)
  clear ha42
  exact by (
  refine dn_ hK40 ?_
  clear hK40
  rcases ite_ H with ⟨c44, H⟩ | ⟨c44, H⟩
  · refine wy_ c44 ?_
    refine sr_ fun _ hK45 => ?_
    refine as_ ?_
    exact by (
    refine dn_ hK45 ?_
    clear hK45
    obtain rfl := os H
    exact rt1 Try.f25 rfl rfl hR_ ⟨rfl, HS.b⟩ )
  refine wn_ (bF c44) ?_
  refine WC.skip ?_
  exact by (
  refine via_ hK39 ?_
  clear hK39
  refine WC.seq fun _ hK46 => ?_
  refine sr_ fun _ hK47 => ?_
  refine v_ (fa_ Try.underlying39) ?_
  refine v_ (lb_ (HS.mu 0 rfl) Try.underlying35 hc33) ?_
  exact by (
  refine v_ (Run.makeFunc (cap := [.pointer (some ⟨b2, 0, none⟩)]) rfl rfl) ?_
  obtain ⟨t48, ha49, H⟩ := bind_some H
  refine cs_ HS Try.func75 (slices_ContainsFunc_impl_Layer_impl_Layer_76.runs k A31 c32 x0.f5 b2 cs0 x0 t48 _ (HS.getO 0 rfl) le34 (HS.getO 3 rfl) (HS.mu 0 rfl) ha49) (fun w50 HS => ?_)
  clear ha49
  refine dn_ hK47 ?_
  clear hK47
  exact by (
  rcases ite_ H with ⟨c51, H⟩ | ⟨c51, H⟩
  · refine wy_ c51 ?_
    refine sr_ fun _ hK52 => ?_
    refine as_ ?_
    refine dn_ hK52 ?_
    clear hK52
    obtain rfl := os H
    exact rt1 Try.f25 rfl rfl hR_ ⟨rfl, HS.b⟩
  exact by (
  refine wn_ (bF c51) ?_
  refine WC.skip ?_
  refine via_ hK46 ?_
  clear hK46
  refine WC.seq fun _ hK53 => ?_
  refine WC.drawS HS [] rfl rfl (fun w54 HS => ?_)
  exact by (
  have HB := Below.refl w54.heap.size w54
  have HSW := HS
  refine df_ 0 Try.underlying39 ?_
  refine df_ 2 Try.underlying39 ?_
  obtain ⟨A55, c56, hc57, le58, HS⟩ := HS.sO 3 rfl at39_6
  refine bl_ 1 HS (Below.refl _ _) 0 Try.underlying25 hc57 ?_
  exact by (
  refine bl_ 3 HS (Below.refl _ _) 0 Try.underlying3 (at39_0 (HS.aO 4 rfl)).int ?_
  obtain ⟨t59, ha60, H⟩ := bind_some H
  refine dcs_ HS HB 4 (w_none rfl) Try.func28 (impl_GainOk.calls A55 c56 x0.f6 x0.f0 t59 _ (HS.getO 0 rfl) le58 ha60) (fun w61 HS HB => ?_)
  clear ha60
  refine dm_ 5 ?_
  rcases eti_ H with ⟨c62, H⟩ | ⟨c62, H⟩
  · refine doF_ 6 (bF c62) ?_
    exact by (
    refine doF_ 7 (bF c62) ?_
    refine doF_ 8 (bF c62) ?_
    refine doF_ 9 (bF c62) ?_
    refine doF_ 10 (bF c62) ?_
    refine doF_ 11 (bF c62) ?_
    refine doF_ 12 (bF c62) ?_
    exact by (
    refine dp_ 13 (fun _ => Run.pickF rfl rfl (bF c62) rfl) ?_
    refine dm_ 14 ?_
    refine doF_ 15 rfl ?_
    refine doF_ 16 rfl ?_
    refine doF_ 17 rfl ?_
    refine doF_ 18 rfl ?_
    exact by (
    refine doF_ 19 rfl ?_
    refine doF_ 20 rfl ?_
    refine doF_ 21 rfl ?_
    refine doF_ 22 rfl ?_
    refine doF_ 23 rfl ?_
    refine doF_ 24 rfl ?_
    exact by (
    refine doF_ 25 rfl ?_
    refine dp_ 26 (fun _ => Run.pickF rfl rfl rfl rfl) ?_
    refine dp_ 27 (fun _ => Run.assign rfl rfl) ?_
    refine dd_ ?_
    clear HB HSW
    refine via_ hK53 ?_
    exact by (
    clear hK53
    obtain rfl := os H
    exact rt1 Try.f25 rfl rfl hR_ ⟨rfl, HS.b⟩ )))))
  refine dfg_ 6 c62 Try.underlying39 ?_
  refine dfg_ 8 c62 Try.underlying39 ?_
  obtain ⟨A63, c64, hc65, le66, HS⟩ := HS.sO 4 rfl at39_8
  exact by (
  obtain ⟨A67, c68, hc69, le70, HS⟩ := HS.sO 5 rfl at39_9
  refine dh_ 7 c62 HB (fun w_ hw_ => Run.loadS (cs := [.int .i64 x0.f7.f0, .slice A63 x0.f7.f1.length c64, .slice A67 x0.f7.f2.length c68, .int .i64 x0.f7.f3, .int .i64 x0.f7.f4]) rfl rfl Try.underlying36 rfl (by kernel_rfl) (box_part ((HSW.below hw_).mu 0 rfl) (part_cons (at39_7 ((HSW.below hw_).aO 3 rfl)).int (part_cons hc65 (part_cons hc69 (part_cons (at39_10 ((HSW.below hw_).aO 3 rfl)).int (part_cons (at39_11 ((HSW.below hw_).aO 3 rfl)).int part_nil))))))) ?_
  refine blg_ 9 c62 HSW HB 0 Try.underlying3 (at39_0 (HSW.aO 3 rfl)).int ?_
  refine dh_ 10 c62 HB (fun w_ hw_ => Run.loadS (cs := cs0) rfl rfl Try.underlying39 rfl (by rw [el0]; kernel_rfl) (box_part ((HSW.below hw_).mu 0 rfl) part_all)) ?_
  obtain ⟨t71, ha72, H⟩ := bind_some H
  refine dcs_ HS HB 11 (w_on rfl rfl rfl c62) Try.func17 (impl_Vocab.runs k cs0 x0 t71 _ (HS.getO 6 rfl) ha72) (fun w73 HS HB => ?_)
  exact by (
  clear ha72
  obtain ⟨t74, ha75, H⟩ := bind_some H
  refine dcs_ HS HB 12 (w_on rfl rfl rfl c62) Try.func65 (impl_withinBudget.calls k x0.f7.f0 A63 c64 x0.f7.f1 A67 c68 x0.f7.f2 x0.f7.f3 x0.f7.f4 x0.f0 t71 t74 _ (HS.getO 1 rfl) le66 (HS.getO 0 rfl) le70 ha75) (fun w76 HS HB => ?_)
  clear ha75
  refine dp_ 13 (fun _ => Run.pickT rfl rfl c62 rfl) ?_
  refine dm_ 14 ?_
  exact by (
  rcases eti_ H with ⟨c77, H⟩ | ⟨c77, H⟩
  · refine doF_ 15 (bF c77) ?_
    refine doF_ 16 (bF c77) ?_
    refine doF_ 17 (bF c77) ?_
    refine doF_ 18 (bF c77) ?_
    refine doF_ 19 (bF c77) ?_
    exact by (
    refine doF_ 20 (bF c77) ?_
    refine doF_ 21 (bF c77) ?_
    refine doF_ 22 (bF c77) ?_
    refine doF_ 23 (bF c77) ?_
    refine doF_ 24 (bF c77) ?_
    refine doF_ 25 (bF c77) ?_
    exact by (
    refine dp_ 26 (fun _ => Run.pickF rfl rfl (bF c77) rfl) ?_
    refine dp_ 27 (fun _ => Run.assign rfl rfl) ?_
    refine dd_ ?_
    clear HB HSW
    refine via_ hK53 ?_
    clear hK53
    obtain rfl := os H
    exact rt1 Try.f25 rfl rfl hR_ ⟨rfl, HS.b⟩ ))
  exact by (
  refine dfg_ 15 c77 Try.underlying39 ?_
  refine dfg_ 17 c77 Try.underlying39 ?_
  refine dfg_ 19 c77 Try.underlying39 ?_
  refine dfg_ 21 c77 Try.underlying39 ?_
  obtain ⟨A78, c79, hc80, le81, HS⟩ := HS.sO 6 rfl at39_12
  obtain ⟨A82, c83, hc84, le85, HS⟩ := HS.sO 7 rfl at39_13
  exact by (
  refine dh_ 16 c77 HB (fun w_ hw_ => Run.loadS (cs := [.slice A78 x0.f8.f0.length c79, .slice A82 x0.f8.f1.length c83]) rfl rfl Try.underlying37 rfl (by kernel_rfl) (box_part ((HSW.below hw_).mu 0 rfl) (part_cons hc80 (part_cons hc84 part_nil)))) ?_
  refine blg_ 18 c77 HSW HB 0 Try.underlying3 (at39_2 (HSW.aO 3 rfl)).int ?_
  refine blg_ 20 c77 HSW HB 0 Try.underlying3 (at39_0 (HSW.aO 3 rfl)).int ?_
  refine blg_ 22 c77 HSW HB 0 Try.underlying3 (at39_1 (HSW.aO 3 rfl)).int ?_
  obtain ⟨z86, H⟩ := if_some H
  refine dg_ 23 c77 (fun _ => Run.bin rfl rfl rfl (bin_quo64 z86)) ?_
  exact by (
  refine dg_ 24 c77 (fun _ => Run.bin rfl rfl rfl (bin_quo64 (show (2 : Int) ≠ 0 by decide))) ?_
  obtain ⟨t87, ha88, H⟩ := bind_some H
  refine dcs_ HS HB 25 (w_on rfl rfl rfl c77) Try.func77 (impl_TurnsOk.calls A78 c79 x0.f8.f0 A82 c83 x0.f8.f1 x0.f2 (wrap64 (Int.tdiv (wrap64 (Int.tdiv x0.f0 x0.f1)) 2)) t87 _ (HS.getO 1 rfl) le81 (HS.getO 0 rfl) le85 ha88) (fun w89 HS HB => ?_)
  clear ha88
  refine dp_ 26 (fun _ => Run.pickT rfl rfl c77 rfl) ?_
  refine dp_ 27 (fun _ => Run.assign rfl rfl) ?_
  exact by (
  refine dd_ ?_
  clear HB HSW
  refine via_ hK53 ?_
  clear hK53
  obtain rfl := os H
  exact rt1 Try.f25 rfl rfl hR_ ⟨rfl, HS.b⟩ )))))))))))))))))))))))))))
def impl_matricesOf.b0 (x0 : S39) (rec_ : (List S36) → Int → Option ((List S36) × Int)) (k42 : Nat) (xs17 : List S36) (i20 : Int) : Option ((List S36) × Int) := (if i20 < (x0.f5.length : Int) then (if 0 ≤ i20 ∧ i20 < (x0.f5.length : Int) then (if (xs17.length) < 4294967296 then (rec_ (xs17 ++ [(x0.f5.getD i20.toNat o48).f1, (x0.f5.getD i20.toNat o48).f2, (x0.f5.getD i20.toNat o48).f3, (x0.f5.getD i20.toNat o48).f4, (x0.f5.getD i20.toNat o48).f6, (x0.f5.getD i20.toNat o48).f7]) (wrap64 (i20 + 1))) else none) else none) else (some (xs17, i20)))
def impl_matricesOf.l0 (x0 : S39) : Nat → (List S36) → Int → Option ((List S36) × Int)
  | 0, _, _ => none
  | k + 1, xs17, i20 => impl_matricesOf.b0 x0 (impl_matricesOf.l0 x0 k) k xs17 i20
def impl_matricesOf.g (k : Nat) (x0 : S39) : Option (List S36) := ((impl_matricesOf.l0 x0 k ([] : List S36) 0).bind (fun o40 => (if (o40.1.length) < 4294967296 then (some (o40.1 ++ [x0.f7])) else none)))
theorem impl_matricesOf.runs (k : Nat) (cs0 : List Value) (x0 : S39) (r : List S36) (ok : Nat → Prop) (w : World) (hk0 : Foot (fun W => k39.K W x0 cs0) w ok) (H : impl_matricesOf.g k x0 = some r) :
    Calls Try.prog 81 #[.agg cs0.toArray] w fun e w' => ∃ (A0_ : Option Addr) (c0_ : Nat), e = .returned (.slice A0_ r.length c0_) ∧ r.length ≤ c0_ ∧ Foot (fun W => k36.C W A0_ r.length r) w' (fun k_ => ok k_ ∨ w.heap.size ≤ k_) ∧ Below w.heap.size w w' := by
  have el0 : cs0.length = 14 := k39.K_len hk0.now
  unfold impl_matricesOf.g at H
  have HS : St ok w w [] [(fun W => k39.K W x0 cs0)] [] := St.start (foot_cons hk0 foot_nil)
  refine cw_ (n := 35) Try.func81 fun R_ hR_ => ?_
  refine sr_ fun _ hK1 => ?_
  refine bo_ HS (fun b2 w3 hb2 HS => ?_)
  exact by (
  refine as_ ?_
  refine dn_ hK1 ?_
  clear hK1
  refine sr_ fun _ hK4 => ?_
  refine WL.lit0 HS rfl rfl (by decide) rfl Try.underlying87 (sz := 5) (by kernel_rfl) (fun v5 w6 HS => ?_)
  replace HS := HS.deriveO (p := (fun W => Reps (k36.K W) k36.sz ([] : List S36) [])) (fun _ _ _ => Reps.none _ _)
  exact by (
  refine as_ ?_
  refine dn_ hK4 ?_
  clear hK4
  refine WC.seq fun K7 hK7 => ?_
  refine sr_ fun _ hK8 => ?_
  refine v_ (fa_ Try.underlying39) ?_
  exact by (
  obtain ⟨A9, c10, hc11, le12, HS⟩ := HS.sO 1 rfl at39_5
  refine v_ (lb_ (HS.mu 1 rfl) Try.underlying35 hc11) ?_
  refine ln_ Try.underlying35 ?_
  refine mv_ ?_
  refine dn_ hK8 ?_
  clear hK8
  exact by (
  refine WC.block ?_
  obtain ⟨G13, hG14, o15, H, Ho16⟩ := open_G H
  have X21 : ∀ E_ W_, (∃ (xs17 : List S36) (v18 : Value) (I19 : List Value) (i20 : Int), E_ = [(1, .pointer (some ⟨b2, 0, none⟩)), (3, v18), (8, .slice A9 x0.f5.length c10), (9, .int .i64 (x0.f5.length : Int)), (10, .int .i64 i20)] ∧ G13 (xs17, i20) = some r ∧ St ok w W_ [rowM w.heap.size 36 5 v18 xs17.length I19, boxM b2 cs0.toArray 39] [(fun W => k48.C W A9 x0.f5.length x0.f5), (fun W => Reps (k36.K W) k36.sz xs17 I19), (fun W => k39.K W x0 cs0)] []) → ∀ a, Fits a 35 E_ → K7 a W_ := by
    rintro E_ w22 ⟨xs17, v18, I19, i20, rfl, H, HS⟩
    rw [hG14] at H
    (try dsimp only at H)
    exact by (
    refine hK7 _ _ ?_
    clear hK7
    refine sr_ fun _ hK23 => ?_
    refine mv_ ?_
    refine v_ (fa_ Try.underlying39) ?_
    obtain ⟨A24, c25, hc26, le27, HS⟩ := HS.sO 2 rfl at39_8
    exact by (
    obtain ⟨A28, c29, hc30, le31, HS⟩ := HS.sO 3 rfl at39_9
    refine v_ (ls_ (HS.mu 1 rfl) Try.underlying36 (part_cons (at39_7 (HS.aO 4 rfl)).int (part_cons hc26 (part_cons hc30 (part_cons (at39_10 (HS.aO 4 rfl)).int (part_cons (at39_11 (HS.aO 4 rfl)).int part_nil)))))) ?_
    refine WL.val rfl rfl (by decide) (Run.lit1 (z := (.agg #[.int .i64 0, .slice none 0 0, .slice none 0 0, .int .i64 0, .int .i64 0])) (vs := [.int .i64 x0.f7.f0, .slice A24 x0.f7.f1.length c25, .slice A28 x0.f7.f2.length c29, .int .i64 x0.f7.f3, .int .i64 x0.f7.f4]) rfl rfl rfl Try.underlying87 (by kernel_rfl) (Nat.le_of_ble_eq_true rfl) (Nat.le_of_ble_eq_true rfl)) ?_
    have HS1 := HS.below (below_alloc (Below.refl _ _) (.cells #[.int .i64 x0.f7.f0, .slice A24 x0.f7.f1.length c25, .slice A28 x0.f7.f2.length c29, .int .i64 x0.f7.f3, .int .i64 x0.f7.f4] 36))
    obtain ⟨q32, H⟩ := if_some H
    refine WL.append HS1 0 rfl rfl rfl (by decide) rfl (.agg #[.int .i64 0, .slice none 0 0, .slice none 0 0, .int .i64 0, .int .i64 0]) 72 Try.underlying87 (by kernel_rfl) rfl (by decide) (by decide) rfl rfl [.int .i64 x0.f7.f0, .slice A24 x0.f7.f1.length c25, .slice A28 x0.f7.f2.length c29, .int .i64 x0.f7.f3, .int .i64 x0.f7.f4] rfl (lit_news _ _ _) (one_cons rfl (one_cons rfl (one_cons rfl (one_cons rfl (one_cons rfl one_nil))))) (by omega) ((xs17 ++ [x0.f7]).length) (by simp) (fun v33 w34 I35 hI36 HS => ?_)
    exact by (
    dsimp only [List.set] at HS
    replace HS := HS.deriveO (p := (fun W => Reps (k36.K W) k36.sz (xs17 ++ [x0.f7]) I35)) (fun W_ hO_ hN_ => reps_snoc hI36 (AllF.get 3 rfl hO_) (k36_mk _ x0.f7 (le27) (AllF.get 1 rfl hO_) (le31) (AllF.get 0 rfl hO_)))
    clear HS1
    refine as_ ?_
    refine dn_ hK23 ?_
    clear hK23
    exact by (
    refine WC.ret ?_
    obtain ⟨A37, c38, rfl⟩ := row_slice (HS.mu 0 rfl)
    have le39 := row_le (HS.mu 0 rfl)
    replace HS := HS.freezeO 0 (p := (fun W => k36.C W A37 ((xs17 ++ [x0.f7])).length ((xs17 ++ [x0.f7])))) rfl (fun W_ hm_ h_ => row_C (by rfl) hm_ (AllF.get 0 rfl h_))
    dsimp only [List.eraseIdx] at HS
    obtain rfl := os H
    exact fin1 Try.f81 rfl rfl hR_ ⟨_, _, rfl, le39, (foot_old (HS.footO 0 rfl)), HS.b⟩ ))))
  exact by (
  clear hK7
  refine WC.loop (fun k_ E_ W_ => ∃ (xs17 : List S36) (v18 : Value) (I19 : List Value) (i20 : Int), E_ = [(1, .pointer (some ⟨b2, 0, none⟩)), (3, v18), (8, .slice A9 x0.f5.length c10), (9, .int .i64 (x0.f5.length : Int)), (10, .int .i64 i20)] ∧ (∃ o_, impl_matricesOf.l0 x0 k_ xs17 i20 = some o_ ∧ G13 o_ = some r) ∧ St ok w W_ [rowM w.heap.size 36 5 v18 xs17.length I19, boxM b2 cs0.toArray 39] [(fun W => k48.C W A9 x0.f5.length x0.f5), (fun W => Reps (k36.K W) k36.sz xs17 I19), (fun W => k39.K W x0 cs0)] []) k ⟨([] : List S36), v5, ([]), 0, rfl, ⟨_, H, Ho16⟩, (St.pick HS (fun W_ h_ => ⟨AllF.get 0 rfl h_, AllF.get 1 rfl h_, AllF.get 2 rfl h_, trivial⟩) (fun W_ h_ => trivial))⟩ ⟨rfl, rfl, rfl, rfl, rfl, trivial⟩ ?_
  rintro k_ E_ w41 ⟨xs17, v18, I19, i20, rfl, ⟨o15, H, Ho16⟩, HS⟩
  rcases k_ with _ | k42
  · exact no_ H
  replace H : impl_matricesOf.b0 x0 (impl_matricesOf.l0 x0 k42) k42 xs17 i20 = some o15 := H
  exact by (
  unfold impl_matricesOf.b0 at H
  refine sr_ fun _ hK43 => ?_
  refine b_ bin_lss ?_
  refine dn_ hK43 ?_
  clear hK43
  refine WC.seq fun _ hK44 => ?_
  exact by (
  rcases eti_ H with ⟨c45, H⟩ | ⟨c45, H⟩
  · refine wn_ (dF c45) ?_
    refine WC.exit ?_
    obtain rfl := os H
    exact WQ.via2 (fun _ _ h_ => h_) X21 ⟨xs17, v18, I19, i20, rfl, Ho16, (St.pick HS (fun W_ h_ => ⟨AllF.get 0 rfl h_, AllF.get 1 rfl h_, AllF.get 2 rfl h_, trivial⟩) (fun W_ h_ => trivial))⟩ ⟨rfl, rfl, rfl, rfl, rfl, trivial⟩
  refine wy_ (dT c45) ?_
  exact by (
  refine WC.skip ?_
  refine via_ hK44 ?_
  clear hK44
  refine WC.seq fun _ hK46 => ?_
  refine WC.block ?_
  refine sr_ fun _ hK47 => ?_
  exact by (
  obtain ⟨⟨q48, q49⟩, H⟩ := if_some H
  obtain ⟨ad50, rfl⟩ := C_open (HS.getO 0 rfl) (by omega)
  refine v_ (ia_ Try.underlying35 32 q48 q49) ?_
  obtain ⟨e51, el52, HS⟩ := HS.elO 0 rfl (by decide) o48 i20 q48 q49
  replace HS := HS.deriveO (p := (fun W => k48.K W (x0.f5.getD i20.toNat o48) e51)) (fun W_ hO_ hN_ => (AllF.get 0 rfl hO_).1)
  refine v_ (Run.loadS (cs := e51) rfl rfl Try.underlying48 rfl (by rw [el52]; kernel_rfl) (HS.getO 1 rfl).2) ?_
  exact by (
  refine WL.alloc HS (v := .agg #[.slice none 0 0, .int .i64 0, .slice none 0 0, .slice none 0 0, .int .i64 0, .int .i64 0, .int .i64 0, .slice none 0 0, .slice none 0 0, .int .i64 0, .int .i64 0, .int .i64 0, .slice none 0 0, .slice none 0 0, .int .i64 0, .int .i64 0, .int .i64 0, .slice none 0 0, .slice none 0 0, .int .i64 0, .int .i64 0, .slice none 0 0, .int .i64 0, .slice none 0 0, .slice none 0 0, .int .i64 0, .int .i64 0, .int .i64 0, .slice none 0 0, .slice none 0 0, .int .i64 0, .int .i64 0]) (cs := #[.slice none 0 0, .int .i64 0, .slice none 0 0, .slice none 0 0, .int .i64 0, .int .i64 0, .int .i64 0, .slice none 0 0, .slice none 0 0, .int .i64 0, .int .i64 0, .int .i64 0, .slice none 0 0, .slice none 0 0, .int .i64 0, .int .i64 0, .int .i64 0, .slice none 0 0, .slice none 0 0, .int .i64 0, .int .i64 0, .slice none 0 0, .int .i64 0, .slice none 0 0, .slice none 0 0, .int .i64 0, .int .i64 0, .int .i64 0, .slice none 0 0, .slice none 0 0, .int .i64 0, .int .i64 0]) rfl rfl (by decide) rfl (by kernel_rfl) rfl (fun b53 w54 hb53 HS => ?_)
  refine WL.storeS HS 0 rfl rfl rfl rfl rfl rfl (Kd.K_one _ (HS.getO 0 rfl)) (by rw [el52]; kernel_rfl) (by rw [el52]; decide) (splice_all (by rw [el52]; rfl)) (fun w55 HS => ?_)
  dsimp only [List.set] at HS
  refine dn_ hK47 ?_
  clear hK47
  refine rg_ ?_
  exact by (
  refine mv_ ?_
  refine v_ (fa_ Try.underlying48) ?_
  obtain ⟨A56, c57, hc58, le59, HS⟩ := HS.sO 0 rfl at48_2
  obtain ⟨A60, c61, hc62, le63, HS⟩ := HS.sO 1 rfl at48_3
  refine v_ (ls_ (HS.mu 0 rfl) Try.underlying36 (part_cons (at48_1 (HS.aO 2 rfl)).int (part_cons hc58 (part_cons hc62 (part_cons (at48_4 (HS.aO 2 rfl)).int (part_cons (at48_5 (HS.aO 2 rfl)).int part_nil)))))) ?_
  refine v_ (fa_ Try.underlying48) ?_
  exact by (
  obtain ⟨A64, c65, hc66, le67, HS⟩ := HS.sO 2 rfl at48_7
  obtain ⟨A68, c69, hc70, le71, HS⟩ := HS.sO 3 rfl at48_8
  refine v_ (ls_ (HS.mu 0 rfl) Try.underlying36 (part_cons (at48_6 (HS.aO 4 rfl)).int (part_cons hc66 (part_cons hc70 (part_cons (at48_9 (HS.aO 4 rfl)).int (part_cons (at48_10 (HS.aO 4 rfl)).int part_nil)))))) ?_
  refine v_ (fa_ Try.underlying48) ?_
  obtain ⟨A72, c73, hc74, le75, HS⟩ := HS.sO 4 rfl at48_12
  obtain ⟨A76, c77, hc78, le79, HS⟩ := HS.sO 5 rfl at48_13
  exact by (
  refine v_ (ls_ (HS.mu 0 rfl) Try.underlying36 (part_cons (at48_11 (HS.aO 6 rfl)).int (part_cons hc74 (part_cons hc78 (part_cons (at48_14 (HS.aO 6 rfl)).int (part_cons (at48_15 (HS.aO 6 rfl)).int part_nil)))))) ?_
  refine v_ (fa_ Try.underlying48) ?_
  obtain ⟨A80, c81, hc82, le83, HS⟩ := HS.sO 6 rfl at48_17
  obtain ⟨A84, c85, hc86, le87, HS⟩ := HS.sO 7 rfl at48_18
  refine v_ (ls_ (HS.mu 0 rfl) Try.underlying36 (part_cons (at48_16 (HS.aO 8 rfl)).int (part_cons hc82 (part_cons hc86 (part_cons (at48_19 (HS.aO 8 rfl)).int (part_cons (at48_20 (HS.aO 8 rfl)).int part_nil)))))) ?_
  refine v_ (fa_ Try.underlying48) ?_
  exact by (
  obtain ⟨A88, c89, hc90, le91, HS⟩ := HS.sO 8 rfl at48_23
  obtain ⟨A92, c93, hc94, le95, HS⟩ := HS.sO 9 rfl at48_24
  refine v_ (ls_ (HS.mu 0 rfl) Try.underlying36 (part_cons (at48_22 (HS.aO 10 rfl)).int (part_cons hc90 (part_cons hc94 (part_cons (at48_25 (HS.aO 10 rfl)).int (part_cons (at48_26 (HS.aO 10 rfl)).int part_nil)))))) ?_
  refine v_ (fa_ Try.underlying48) ?_
  obtain ⟨A96, c97, hc98, le99, HS⟩ := HS.sO 10 rfl at48_28
  obtain ⟨A100, c101, hc102, le103, HS⟩ := HS.sO 11 rfl at48_29
  exact by (
  refine v_ (ls_ (HS.mu 0 rfl) Try.underlying36 (part_cons (at48_27 (HS.aO 12 rfl)).int (part_cons hc98 (part_cons hc102 (part_cons (at48_30 (HS.aO 12 rfl)).int (part_cons (at48_31 (HS.aO 12 rfl)).int part_nil)))))) ?_
  refine WL.val rfl rfl (by decide) (Run.litN (sz := 5) (z := (.agg #[.int .i64 0, .slice none 0 0, .slice none 0 0, .int .i64 0, .int .i64 0])) (L := [[.int .i64 ((x0.f5.getD i20.toNat o48).f1.f0), .slice A56 ((x0.f5.getD i20.toNat o48).f1.f1.length) c57, .slice A60 ((x0.f5.getD i20.toNat o48).f1.f2.length) c61, .int .i64 ((x0.f5.getD i20.toNat o48).f1.f3), .int .i64 ((x0.f5.getD i20.toNat o48).f1.f4)], [.int .i64 ((x0.f5.getD i20.toNat o48).f2.f0), .slice A64 ((x0.f5.getD i20.toNat o48).f2.f1.length) c65, .slice A68 ((x0.f5.getD i20.toNat o48).f2.f2.length) c69, .int .i64 ((x0.f5.getD i20.toNat o48).f2.f3), .int .i64 ((x0.f5.getD i20.toNat o48).f2.f4)], [.int .i64 ((x0.f5.getD i20.toNat o48).f3.f0), .slice A72 ((x0.f5.getD i20.toNat o48).f3.f1.length) c73, .slice A76 ((x0.f5.getD i20.toNat o48).f3.f2.length) c77, .int .i64 ((x0.f5.getD i20.toNat o48).f3.f3), .int .i64 ((x0.f5.getD i20.toNat o48).f3.f4)], [.int .i64 ((x0.f5.getD i20.toNat o48).f4.f0), .slice A80 ((x0.f5.getD i20.toNat o48).f4.f1.length) c81, .slice A84 ((x0.f5.getD i20.toNat o48).f4.f2.length) c85, .int .i64 ((x0.f5.getD i20.toNat o48).f4.f3), .int .i64 ((x0.f5.getD i20.toNat o48).f4.f4)], [.int .i64 ((x0.f5.getD i20.toNat o48).f6.f0), .slice A88 ((x0.f5.getD i20.toNat o48).f6.f1.length) c89, .slice A92 ((x0.f5.getD i20.toNat o48).f6.f2.length) c93, .int .i64 ((x0.f5.getD i20.toNat o48).f6.f3), .int .i64 ((x0.f5.getD i20.toNat o48).f6.f4)], [.int .i64 ((x0.f5.getD i20.toNat o48).f7.f0), .slice A96 ((x0.f5.getD i20.toNat o48).f7.f1.length) c97, .slice A100 ((x0.f5.getD i20.toNat o48).f7.f2.length) c101, .int .i64 ((x0.f5.getD i20.toNat o48).f7.f3), .int .i64 ((x0.f5.getD i20.toNat o48).f7.f4)]]) rfl ⟨⟨rfl, _, rfl, rfl, rfl⟩, ⟨⟨rfl, _, rfl, rfl, rfl⟩, ⟨⟨rfl, _, rfl, rfl, rfl⟩, ⟨⟨rfl, _, rfl, rfl, rfl⟩, ⟨⟨rfl, _, rfl, rfl, rfl⟩, ⟨⟨rfl, _, rfl, rfl, rfl⟩, trivial⟩⟩⟩⟩⟩⟩ rfl Try.underlying87 (by kernel_rfl) (by decide) (by decide)) ?_
  have HS1 := HS.below (below_alloc (Below.refl _ _) (.cells (List.toArray [.int .i64 ((x0.f5.getD i20.toNat o48).f1.f0), .slice A56 ((x0.f5.getD i20.toNat o48).f1.f1.length) c57, .slice A60 ((x0.f5.getD i20.toNat o48).f1.f2.length) c61, .int .i64 ((x0.f5.getD i20.toNat o48).f1.f3), .int .i64 ((x0.f5.getD i20.toNat o48).f1.f4), .int .i64 ((x0.f5.getD i20.toNat o48).f2.f0), .slice A64 ((x0.f5.getD i20.toNat o48).f2.f1.length) c65, .slice A68 ((x0.f5.getD i20.toNat o48).f2.f2.length) c69, .int .i64 ((x0.f5.getD i20.toNat o48).f2.f3), .int .i64 ((x0.f5.getD i20.toNat o48).f2.f4), .int .i64 ((x0.f5.getD i20.toNat o48).f3.f0), .slice A72 ((x0.f5.getD i20.toNat o48).f3.f1.length) c73, .slice A76 ((x0.f5.getD i20.toNat o48).f3.f2.length) c77, .int .i64 ((x0.f5.getD i20.toNat o48).f3.f3), .int .i64 ((x0.f5.getD i20.toNat o48).f3.f4), .int .i64 ((x0.f5.getD i20.toNat o48).f4.f0), .slice A80 ((x0.f5.getD i20.toNat o48).f4.f1.length) c81, .slice A84 ((x0.f5.getD i20.toNat o48).f4.f2.length) c85, .int .i64 ((x0.f5.getD i20.toNat o48).f4.f3), .int .i64 ((x0.f5.getD i20.toNat o48).f4.f4), .int .i64 ((x0.f5.getD i20.toNat o48).f6.f0), .slice A88 ((x0.f5.getD i20.toNat o48).f6.f1.length) c89, .slice A92 ((x0.f5.getD i20.toNat o48).f6.f2.length) c93, .int .i64 ((x0.f5.getD i20.toNat o48).f6.f3), .int .i64 ((x0.f5.getD i20.toNat o48).f6.f4), .int .i64 ((x0.f5.getD i20.toNat o48).f7.f0), .slice A96 ((x0.f5.getD i20.toNat o48).f7.f1.length) c97, .slice A100 ((x0.f5.getD i20.toNat o48).f7.f2.length) c101, .int .i64 ((x0.f5.getD i20.toNat o48).f7.f3), .int .i64 ((x0.f5.getD i20.toNat o48).f7.f4)]) 36))
  obtain ⟨q104, H⟩ := if_some H
  refine WL.append HS1 1 rfl rfl rfl (by decide) rfl (.agg #[.int .i64 0, .slice none 0 0, .slice none 0 0, .int .i64 0, .int .i64 0]) 72 Try.underlying87 (by kernel_rfl) rfl (by decide) (by decide) rfl rfl [.int .i64 ((x0.f5.getD i20.toNat o48).f1.f0), .slice A56 ((x0.f5.getD i20.toNat o48).f1.f1.length) c57, .slice A60 ((x0.f5.getD i20.toNat o48).f1.f2.length) c61, .int .i64 ((x0.f5.getD i20.toNat o48).f1.f3), .int .i64 ((x0.f5.getD i20.toNat o48).f1.f4), .int .i64 ((x0.f5.getD i20.toNat o48).f2.f0), .slice A64 ((x0.f5.getD i20.toNat o48).f2.f1.length) c65, .slice A68 ((x0.f5.getD i20.toNat o48).f2.f2.length) c69, .int .i64 ((x0.f5.getD i20.toNat o48).f2.f3), .int .i64 ((x0.f5.getD i20.toNat o48).f2.f4), .int .i64 ((x0.f5.getD i20.toNat o48).f3.f0), .slice A72 ((x0.f5.getD i20.toNat o48).f3.f1.length) c73, .slice A76 ((x0.f5.getD i20.toNat o48).f3.f2.length) c77, .int .i64 ((x0.f5.getD i20.toNat o48).f3.f3), .int .i64 ((x0.f5.getD i20.toNat o48).f3.f4), .int .i64 ((x0.f5.getD i20.toNat o48).f4.f0), .slice A80 ((x0.f5.getD i20.toNat o48).f4.f1.length) c81, .slice A84 ((x0.f5.getD i20.toNat o48).f4.f2.length) c85, .int .i64 ((x0.f5.getD i20.toNat o48).f4.f3), .int .i64 ((x0.f5.getD i20.toNat o48).f4.f4), .int .i64 ((x0.f5.getD i20.toNat o48).f6.f0), .slice A88 ((x0.f5.getD i20.toNat o48).f6.f1.length) c89, .slice A92 ((x0.f5.getD i20.toNat o48).f6.f2.length) c93, .int .i64 ((x0.f5.getD i20.toNat o48).f6.f3), .int .i64 ((x0.f5.getD i20.toNat o48).f6.f4), .int .i64 ((x0.f5.getD i20.toNat o48).f7.f0), .slice A96 ((x0.f5.getD i20.toNat o48).f7.f1.length) c97, .slice A100 ((x0.f5.getD i20.toNat o48).f7.f2.length) c101, .int .i64 ((x0.f5.getD i20.toNat o48).f7.f3), .int .i64 ((x0.f5.getD i20.toNat o48).f7.f4)] rfl (lit_news _ _ _) (one_cons rfl (one_cons rfl (one_cons rfl (one_cons rfl (one_cons rfl (one_cons rfl (one_cons rfl (one_cons rfl (one_cons rfl (one_cons rfl (one_cons rfl (one_cons rfl (one_cons rfl (one_cons rfl (one_cons rfl (one_cons rfl (one_cons rfl (one_cons rfl (one_cons rfl (one_cons rfl (one_cons rfl (one_cons rfl (one_cons rfl (one_cons rfl (one_cons rfl (one_cons rfl (one_cons rfl (one_cons rfl (one_cons rfl (one_cons rfl one_nil)))))))))))))))))))))))))))))) (by omega) ((xs17 ++ [(x0.f5.getD i20.toNat o48).f1, (x0.f5.getD i20.toNat o48).f2, (x0.f5.getD i20.toNat o48).f3, (x0.f5.getD i20.toNat o48).f4, (x0.f5.getD i20.toNat o48).f6, (x0.f5.getD i20.toNat o48).f7]).length) (by simp) (fun v105 w106 I107 hI108 HS => ?_)
  dsimp only [List.set] at HS
  exact by (
  replace HS := HS.deriveO (p := (fun W => Reps (k36.K W) k36.sz (xs17 ++ [(x0.f5.getD i20.toNat o48).f1, (x0.f5.getD i20.toNat o48).f2, (x0.f5.getD i20.toNat o48).f3, (x0.f5.getD i20.toNat o48).f4, (x0.f5.getD i20.toNat o48).f6, (x0.f5.getD i20.toNat o48).f7]) I107)) (fun W_ hO_ hN_ => reps_more (J := List.flatten [[.int .i64 ((x0.f5.getD i20.toNat o48).f1.f0), .slice A56 ((x0.f5.getD i20.toNat o48).f1.f1.length) c57, .slice A60 ((x0.f5.getD i20.toNat o48).f1.f2.length) c61, .int .i64 ((x0.f5.getD i20.toNat o48).f1.f3), .int .i64 ((x0.f5.getD i20.toNat o48).f1.f4)], [.int .i64 ((x0.f5.getD i20.toNat o48).f2.f0), .slice A64 ((x0.f5.getD i20.toNat o48).f2.f1.length) c65, .slice A68 ((x0.f5.getD i20.toNat o48).f2.f2.length) c69, .int .i64 ((x0.f5.getD i20.toNat o48).f2.f3), .int .i64 ((x0.f5.getD i20.toNat o48).f2.f4)], [.int .i64 ((x0.f5.getD i20.toNat o48).f3.f0), .slice A72 ((x0.f5.getD i20.toNat o48).f3.f1.length) c73, .slice A76 ((x0.f5.getD i20.toNat o48).f3.f2.length) c77, .int .i64 ((x0.f5.getD i20.toNat o48).f3.f3), .int .i64 ((x0.f5.getD i20.toNat o48).f3.f4)], [.int .i64 ((x0.f5.getD i20.toNat o48).f4.f0), .slice A80 ((x0.f5.getD i20.toNat o48).f4.f1.length) c81, .slice A84 ((x0.f5.getD i20.toNat o48).f4.f2.length) c85, .int .i64 ((x0.f5.getD i20.toNat o48).f4.f3), .int .i64 ((x0.f5.getD i20.toNat o48).f4.f4)], [.int .i64 ((x0.f5.getD i20.toNat o48).f6.f0), .slice A88 ((x0.f5.getD i20.toNat o48).f6.f1.length) c89, .slice A92 ((x0.f5.getD i20.toNat o48).f6.f2.length) c93, .int .i64 ((x0.f5.getD i20.toNat o48).f6.f3), .int .i64 ((x0.f5.getD i20.toNat o48).f6.f4)], [.int .i64 ((x0.f5.getD i20.toNat o48).f7.f0), .slice A96 ((x0.f5.getD i20.toNat o48).f7.f1.length) c97, .slice A100 ((x0.f5.getD i20.toNat o48).f7.f2.length) c101, .int .i64 ((x0.f5.getD i20.toNat o48).f7.f3), .int .i64 ((x0.f5.getD i20.toNat o48).f7.f4)]]) hI108 (AllF.get 15 rfl hO_) (reps_lit ⟨(k36_mk _ ((x0.f5.getD i20.toNat o48).f1) (le59) (AllF.get 11 rfl hO_) (le63) (AllF.get 10 rfl hO_)), ⟨(k36_mk _ ((x0.f5.getD i20.toNat o48).f2) (le67) (AllF.get 9 rfl hO_) (le71) (AllF.get 8 rfl hO_)), ⟨(k36_mk _ ((x0.f5.getD i20.toNat o48).f3) (le75) (AllF.get 7 rfl hO_) (le79) (AllF.get 6 rfl hO_)), ⟨(k36_mk _ ((x0.f5.getD i20.toNat o48).f4) (le83) (AllF.get 5 rfl hO_) (le87) (AllF.get 4 rfl hO_)), ⟨(k36_mk _ ((x0.f5.getD i20.toNat o48).f6) (le91) (AllF.get 3 rfl hO_) (le95) (AllF.get 2 rfl hO_)), ⟨(k36_mk _ ((x0.f5.getD i20.toNat o48).f7) (le99) (AllF.get 1 rfl hO_) (le103) (AllF.get 0 rfl hO_)), trivial⟩⟩⟩⟩⟩⟩))
  clear HS1
  refine as_ ?_
  refine dn_ hK46 ?_
  clear hK46
  refine rg_ ?_
  exact by (
  refine b_ bin_add64 ?_
  refine mv_ ?_
  refine WL.done ?_
  exact WQ.round k42 (fun _ _ h_ => h_) (Nat.lt_succ_self _) ⟨(xs17 ++ [(x0.f5.getD i20.toNat o48).f1, (x0.f5.getD i20.toNat o48).f2, (x0.f5.getD i20.toNat o48).f3, (x0.f5.getD i20.toNat o48).f4, (x0.f5.getD i20.toNat o48).f6, (x0.f5.getD i20.toNat o48).f7]), v105, I107, (wrap64 (i20 + 1)), rfl, ⟨_, H, Ho16⟩, (St.pick (St.forget HS 0 rfl) (fun W_ h_ => ⟨AllF.get 15 rfl h_, AllF.get 0 rfl h_, AllF.get 17 rfl h_, trivial⟩) (fun W_ h_ => trivial))⟩ ⟨rfl, rfl, rfl, rfl, rfl, trivial⟩ )))))))))))))))))
def impl_BudgetOf.b1 (t13 : (List S36)) (i25 : Int) (rec_ : Int → Int → Option (Int × Int)) (k64 : Nat) (i58 : Int) (i59 : Int) : Option (Int × Int) := (if i59 < ((t13.getD i25.toNat o36).f1.length : Int) then (if 0 ≤ i59 ∧ i59 < ((t13.getD i25.toNat o36).f1.length : Int) then (if 0 ≤ i59 ∧ i59 < ((t13.getD i25.toNat o36).f2.length : Int) then ((impl_Worst.f k64 (((t13.getD i25.toNat o36).f1).getD i59.toNat []) (((t13.getD i25.toNat o36).f2).getD i59.toNat [])).bind fun t82 => (rec_ (if i58 < t82 then t82 else i58) (wrap64 (i59 + 1)))) else none) else none) else (some (i58, i59)))
def impl_BudgetOf.l1 (t13 : (List S36)) (i25 : Int) : Nat → Int → Int → Option (Int × Int)
  | 0, _, _ => none
  | k + 1, i58, i59 => impl_BudgetOf.b1 t13 i25 (impl_BudgetOf.l1 t13 i25 k) k i58 i59
def impl_BudgetOf.b0 (t13 : (List S36)) (rec_ : Int → Int → Option (Int × Int)) (k31 : Nat) (i24 : Int) (i25 : Int) : Option (Int × Int) := (if i25 < (t13.length : Int) then (if 0 ≤ i25 ∧ i25 < (t13.length : Int) then ((impl_BudgetOf.l1 t13 i25 k31 i24 0).bind (fun o62 => (rec_ o62.1 (wrap64 (i25 + 1))))) else none) else (some (i24, i25)))
def impl_BudgetOf.l0 (t13 : (List S36)) : Nat → Int → Int → Option (Int × Int)
  | 0, _, _ => none
  | k + 1, i24, i25 => impl_BudgetOf.b0 t13 (impl_BudgetOf.l0 t13 k) k i24 i25
def impl_BudgetOf.g (k : Nat) (x0 : S39) : Option Int := ((impl_ModelOk.g k x0).bind fun t6 => (if t6 = true then ((impl_matricesOf.g k x0).bind fun t13 => ((impl_BudgetOf.l0 t13 k 0 0).bind (fun o29 => (some o29.1)))) else (some 0)))
theorem impl_BudgetOf.runs (k : Nat) (cs0 : List Value) (x0 : S39) (r : Int) (w : World) (hk0 : k39.K w x0 cs0) (H : impl_BudgetOf.g k x0 = some r) :
    Calls Try.prog 30 #[.agg cs0.toArray] w fun e w' => e = .returned (.int .i64 r) ∧ Below w.heap.size w w' := by
  have el0 : cs0.length = 14 := k39.K_len hk0
  unfold impl_BudgetOf.g at H
  have HS : St (fun _ => True) w w [] [(fun W => k39.K W x0 cs0)] [] := St.start (foot_cons (foot_K h39 hk0) foot_nil)
  refine cw_ (n := 38) Try.func30 fun R_ hR_ => ?_
  refine sr_ fun _ hK1 => ?_
  refine bo_ HS (fun b2 w3 hb2 HS => ?_)
  exact by (
  refine as_ ?_
  refine dn_ hK1 ?_
  clear hK1
  refine WC.seq fun _ hK4 => ?_
  refine sr_ fun _ hK5 => ?_
  refine v_ (Run.loadS (cs := cs0) rfl rfl Try.underlying39 rfl (by rw [el0]; kernel_rfl) (box_part (HS.mu 0 rfl) part_all)) ?_
  exact by (
  obtain ⟨t6, ha7, H⟩ := bind_some H
  refine cs_ HS Try.func25 (impl_ModelOk.runs k cs0 x0 t6 _ (HS.getO 0 rfl) ha7) (fun w8 HS => ?_)
  clear ha7
  refine nt_ ?_
  refine dn_ hK5 ?_
  clear hK5
  exact by (
  rcases eti_ H with ⟨c9, H⟩ | ⟨c9, H⟩
  · refine wy_ (nB (bF c9)) ?_
    refine sr_ fun _ hK85 => ?_
    refine as_ ?_
    refine dn_ hK85 ?_
    clear hK85
    obtain rfl := os H
    exact rt1 Try.f30 rfl rfl hR_ ⟨rfl, HS.b⟩
  exact by (
  refine wn_ (nB c9) ?_
  refine WC.skip ?_
  refine via_ hK4 ?_
  clear hK4
  refine sr_ fun _ hK10 => ?_
  refine as_ ?_
  exact by (
  refine dn_ hK10 ?_
  clear hK10
  refine WC.seq fun K11 hK11 => ?_
  refine sr_ fun _ hK12 => ?_
  refine v_ (Run.loadS (cs := cs0) rfl rfl Try.underlying39 rfl (by rw [el0]; kernel_rfl) (box_part (HS.mu 0 rfl) part_all)) ?_
  obtain ⟨t13, ha14, H⟩ := bind_some H
  exact by (
  refine c_ Try.func81 (impl_matricesOf.runs k cs0 x0 t13 _ _ (HS.footO 0 rfl) ha14) ?_
  clear ha14
  rintro _ w15 ⟨A16, c17, rfl, le18, hf19, hb⟩
  replace HS := HS.newOs hb (foot_cons hf19 foot_nil)
  refine ⟨_, rfl, ?_⟩
  clear hb
  exact by (
  refine ln_ Try.underlying87 ?_
  refine mv_ ?_
  refine dn_ hK12 ?_
  clear hK12
  refine WC.block ?_
  obtain ⟨G20, hG21, o22, H, Ho23⟩ := open_G H
  exact by (
  have X26 : ∀ E_ W_, (∃ (i24 : Int) (i25 : Int), E_ = [(3, .int .i64 i24), (12, .slice A16 t13.length c17), (13, .int .i64 (t13.length : Int)), (14, .int .i64 i25)] ∧ G20 (i24, i25) = some r ∧ St (fun _ => True) w W_ [boxM b2 cs0.toArray 39] [(fun W => k36.C W A16 t13.length t13), (fun W => k39.K W x0 cs0)] []) → ∀ a, Fits a 38 E_ → K11 a W_ := by
    rintro E_ w27 ⟨i24, i25, rfl, H, HS⟩
    rw [hG21] at H
    (try dsimp only at H)
    refine hK11 _ _ ?_
    clear hK11
    exact by (
    refine sr_ fun _ hK28 => ?_
    refine mv_ ?_
    refine as_ ?_
    refine dn_ hK28 ?_
    clear hK28
    obtain rfl := os H
    exact rt1 Try.f30 rfl rfl hR_ ⟨rfl, HS.b⟩ )
  exact by (
  clear hK11
  refine WC.loop (fun k_ E_ W_ => ∃ (i24 : Int) (i25 : Int), E_ = [(3, .int .i64 i24), (12, .slice A16 t13.length c17), (13, .int .i64 (t13.length : Int)), (14, .int .i64 i25)] ∧ (∃ o_, impl_BudgetOf.l0 t13 k_ i24 i25 = some o_ ∧ G20 o_ = some r) ∧ St (fun _ => True) w W_ [boxM b2 cs0.toArray 39] [(fun W => k36.C W A16 t13.length t13), (fun W => k39.K W x0 cs0)] []) k ⟨0, 0, rfl, ⟨_, H, Ho23⟩, (St.pick HS (fun W_ h_ => ⟨AllF.get 0 rfl h_, AllF.get 1 rfl h_, trivial⟩) (fun W_ h_ => trivial))⟩ ⟨rfl, rfl, rfl, rfl, trivial⟩ ?_
  rintro k_ E_ w30 ⟨i24, i25, rfl, ⟨o22, H, Ho23⟩, HS⟩
  rcases k_ with _ | k31
  · exact no_ H
  replace H : impl_BudgetOf.b0 t13 (impl_BudgetOf.l0 t13 k31) k31 i24 i25 = some o22 := H
  exact by (
  unfold impl_BudgetOf.b0 at H
  refine sr_ fun _ hK32 => ?_
  refine b_ bin_lss ?_
  refine dn_ hK32 ?_
  clear hK32
  refine WC.seq fun _ hK33 => ?_
  exact by (
  rcases eti_ H with ⟨c34, H⟩ | ⟨c34, H⟩
  · refine wn_ (dF c34) ?_
    refine WC.exit ?_
    obtain rfl := os H
    exact WQ.via2 (fun _ _ h_ => h_) X26 ⟨i24, i25, rfl, Ho23, (St.pick HS (fun W_ h_ => ⟨AllF.get 0 rfl h_, AllF.get 1 rfl h_, trivial⟩) (fun W_ h_ => trivial))⟩ ⟨rfl, rfl, rfl, rfl, trivial⟩
  refine wy_ (dT c34) ?_
  exact by (
  refine WC.skip ?_
  refine via_ hK33 ?_
  clear hK33
  refine WC.seq fun K35 hK35 => ?_
  refine WC.block ?_
  refine sr_ fun _ hK36 => ?_
  exact by (
  obtain ⟨⟨q37, q38⟩, H⟩ := if_some H
  obtain ⟨ad39, rfl⟩ := C_open (HS.getO 0 rfl) (by omega)
  refine v_ (ia_ Try.underlying87 5 q37 q38) ?_
  obtain ⟨e40, el41, HS⟩ := HS.elO 0 rfl (by decide) o36 i25 q37 q38
  obtain ⟨A42, c43, hc44, le45, HS⟩ := HS.eO 0 rfl at36_1
  obtain ⟨A46, c47, hc48, le49, HS⟩ := HS.eO 1 rfl at36_2
  exact by (
  refine v_ (Run.loadS (cs := [.int .i64 ((t13.getD i25.toNat o36).f0), .slice A42 ((t13.getD i25.toNat o36).f1.length) c43, .slice A46 ((t13.getD i25.toNat o36).f2.length) c47, .int .i64 ((t13.getD i25.toNat o36).f3), .int .i64 ((t13.getD i25.toNat o36).f4)]) rfl rfl Try.underlying36 rfl (by kernel_rfl) (cells_part (HS.getO 2 rfl).2 (part_cons (at36_0 (AtK.whole (HS.getO 2 rfl).1)).int (part_cons hc44 (part_cons hc48 (part_cons (at36_3 (AtK.whole (HS.getO 2 rfl).1)).int (part_cons (at36_4 (AtK.whole (HS.getO 2 rfl).1)).int part_nil))))))) ?_
  refine WL.alloc HS (v := .agg #[.int .i64 0, .slice none 0 0, .slice none 0 0, .int .i64 0, .int .i64 0]) (cs := #[.int .i64 0, .slice none 0 0, .slice none 0 0, .int .i64 0, .int .i64 0]) rfl rfl (by decide) rfl (by kernel_rfl) rfl (fun b50 w51 hb50 HS => ?_)
  refine WL.storeS HS 0 (vs := [.int .i64 ((t13.getD i25.toNat o36).f0), .slice A42 ((t13.getD i25.toNat o36).f1.length) c43, .slice A46 ((t13.getD i25.toNat o36).f2.length) c47, .int .i64 ((t13.getD i25.toNat o36).f3), .int .i64 ((t13.getD i25.toNat o36).f4)]) rfl rfl rfl rfl rfl rfl (one_cons rfl (one_cons rfl (one_cons rfl (one_cons rfl (one_cons rfl one_nil))))) (by kernel_rfl) (Nat.le_of_ble_eq_true rfl) (cs' := #[.int .i64 ((t13.getD i25.toNat o36).f0), .slice A42 ((t13.getD i25.toNat o36).f1.length) c43, .slice A46 ((t13.getD i25.toNat o36).f2.length) c47, .int .i64 ((t13.getD i25.toNat o36).f3), .int .i64 ((t13.getD i25.toNat o36).f4)]) (by kernel_rfl) (fun w52 HS => ?_)
  dsimp only [List.set] at HS
  refine dn_ hK36 ?_
  clear hK36
  exact by (
  refine sr_ fun _ hK53 => ?_
  refine v_ (fa_ Try.underlying36) ?_
  refine v_ (lb_ (HS.mu 0 rfl) Try.underlying23 rfl) ?_
  refine ln_ Try.underlying23 ?_
  refine mv_ ?_
  refine dn_ hK53 ?_
  exact by (
  clear hK53
  refine WC.block ?_
  obtain ⟨G54, hG55, o56, H, Ho57⟩ := open_G H
  have X60 : ∀ E_ W_, (∃ (i58 : Int) (i59 : Int), E_ = [(3, .int .i64 i58), (5, .pointer (some ⟨b50, 0, none⟩)), (12, .slice (some ad39) t13.length c17), (13, .int .i64 (t13.length : Int)), (14, .int .i64 i25), (19, .slice A42 ((t13.getD i25.toNat o36).f1.length) c43), (20, .int .i64 ((t13.getD i25.toNat o36).f1.length : Int)), (21, .int .i64 i59)] ∧ G54 (i58, i59) = some o22 ∧ St (fun _ => True) w W_ [boxM b50 #[.int .i64 ((t13.getD i25.toNat o36).f0), .slice A42 ((t13.getD i25.toNat o36).f1.length) c43, .slice A46 ((t13.getD i25.toNat o36).f2.length) c47, .int .i64 ((t13.getD i25.toNat o36).f3), .int .i64 ((t13.getD i25.toNat o36).f4)] 36, boxM b2 cs0.toArray 39] [(fun W => (Kd.slice 3 (Kd.int .i64)).C W A46 (t13.getD i25.toNat o36).f2.length (t13.getD i25.toNat o36).f2), (fun W => (Kd.slice 3 (Kd.int .i64)).C W A42 (t13.getD i25.toNat o36).f1.length (t13.getD i25.toNat o36).f1), (fun W => k36.C W (some ad39) t13.length t13), (fun W => k39.K W x0 cs0)] []) → ∀ a, Fits a 38 E_ → K35 a W_ := by
    rintro E_ w61 ⟨i58, i59, rfl, H, HS⟩
    rw [hG55] at H
    exact by (
    (try dsimp only at H)
    refine hK35 _ _ ?_
    clear hK35
    refine rg_ ?_
    refine b_ bin_add64 ?_
    refine mv_ ?_
    exact by (
    refine WL.done ?_
    exact WQ.round k31 (fun _ _ h_ => h_) (Nat.lt_succ_self _) ⟨i58, (wrap64 (i25 + 1)), rfl, ⟨_, H, Ho23⟩, (St.pick (St.forget HS 0 rfl) (fun W_ h_ => ⟨AllF.get 2 rfl h_, AllF.get 3 rfl h_, trivial⟩) (fun W_ h_ => trivial))⟩ ⟨rfl, rfl, rfl, rfl, trivial⟩ ))
  clear hK35
  refine WC.loop (fun k_ E_ W_ => ∃ (i58 : Int) (i59 : Int), E_ = [(3, .int .i64 i58), (5, .pointer (some ⟨b50, 0, none⟩)), (12, .slice (some ad39) t13.length c17), (13, .int .i64 (t13.length : Int)), (14, .int .i64 i25), (19, .slice A42 ((t13.getD i25.toNat o36).f1.length) c43), (20, .int .i64 ((t13.getD i25.toNat o36).f1.length : Int)), (21, .int .i64 i59)] ∧ (∃ o_, impl_BudgetOf.l1 t13 i25 k_ i58 i59 = some o_ ∧ G54 o_ = some o22) ∧ St (fun _ => True) w W_ [boxM b50 #[.int .i64 ((t13.getD i25.toNat o36).f0), .slice A42 ((t13.getD i25.toNat o36).f1.length) c43, .slice A46 ((t13.getD i25.toNat o36).f2.length) c47, .int .i64 ((t13.getD i25.toNat o36).f3), .int .i64 ((t13.getD i25.toNat o36).f4)] 36, boxM b2 cs0.toArray 39] [(fun W => (Kd.slice 3 (Kd.int .i64)).C W A46 (t13.getD i25.toNat o36).f2.length (t13.getD i25.toNat o36).f2), (fun W => (Kd.slice 3 (Kd.int .i64)).C W A42 (t13.getD i25.toNat o36).f1.length (t13.getD i25.toNat o36).f1), (fun W => k36.C W (some ad39) t13.length t13), (fun W => k39.K W x0 cs0)] []) k31 ⟨i24, 0, rfl, ⟨_, H, Ho57⟩, (St.pick HS (fun W_ h_ => ⟨AllF.get 0 rfl h_, AllF.get 1 rfl h_, AllF.get 3 rfl h_, AllF.get 4 rfl h_, trivial⟩) (fun W_ h_ => trivial))⟩ ⟨rfl, rfl, rfl, rfl, rfl, rfl, rfl, rfl, trivial⟩ ?_
  rintro k_ E_ w63 ⟨i58, i59, rfl, ⟨o56, H, Ho57⟩, HS⟩
  rcases k_ with _ | k64
  · exact no_ H
  exact by (
  replace H : impl_BudgetOf.b1 t13 i25 (impl_BudgetOf.l1 t13 i25 k64) k64 i58 i59 = some o56 := H
  unfold impl_BudgetOf.b1 at H
  refine sr_ fun _ hK65 => ?_
  refine b_ bin_lss ?_
  refine dn_ hK65 ?_
  clear hK65
  exact by (
  refine WC.seq fun _ hK66 => ?_
  rcases eti_ H with ⟨c67, H⟩ | ⟨c67, H⟩
  · refine wn_ (dF c67) ?_
    refine WC.exit ?_
    obtain rfl := os H
    exact WQ.via2 (fun _ _ h_ => h_) X60 ⟨i58, i59, rfl, Ho57, (St.pick HS (fun W_ h_ => ⟨AllF.get 0 rfl h_, AllF.get 1 rfl h_, AllF.get 2 rfl h_, AllF.get 3 rfl h_, trivial⟩) (fun W_ h_ => trivial))⟩ ⟨rfl, rfl, rfl, rfl, rfl, rfl, rfl, rfl, trivial⟩
  exact by (
  refine wy_ (dT c67) ?_
  refine WC.skip ?_
  refine via_ hK66 ?_
  clear hK66
  refine WC.seq fun _ hK68 => ?_
  refine WC.block ?_
  exact by (
  refine sr_ fun _ hK69 => ?_
  refine mv_ ?_
  obtain ⟨⟨q70, q71⟩, H⟩ := if_some H
  obtain ⟨ad72, rfl⟩ := C_open (HS.getO 1 rfl) (by omega)
  refine v_ (ia_ Try.underlying23 1 q70 q71) ?_
  obtain ⟨A73, c74, le75, HS⟩ := HS.slO 1 rfl i59 q70 q71
  exact by (
  refine v_ (Run.load rfl rfl Try.underlying25 rfl (HS.getO 1 rfl)) ?_
  refine as_ ?_
  refine as_ ?_
  refine dn_ hK69 ?_
  clear hK69
  refine rg_ ?_
  exact by (
  refine mv_ ?_
  refine mv_ ?_
  refine v_ (fa_ Try.underlying36) ?_
  refine v_ (lb_ (HS.mu 0 rfl) Try.underlying23 rfl) ?_
  refine mv_ ?_
  obtain ⟨⟨q76, q77⟩, H⟩ := if_some H
  exact by (
  obtain ⟨ad78, rfl⟩ := C_open (HS.getO 2 rfl) (by omega)
  refine v_ (ia_ Try.underlying23 1 q76 q77) ?_
  obtain ⟨A79, c80, le81, HS⟩ := HS.slO 2 rfl i59 q76 q77
  refine v_ (Run.load rfl rfl Try.underlying25 rfl (HS.getO 1 rfl)) ?_
  obtain ⟨t82, ha83, H⟩ := bind_some H
  refine cs_ HS Try.func82 (impl_Worst.calls k64 A73 c74 (((t13.getD i25.toNat o36).f1).getD i59.toNat []) A79 c80 (((t13.getD i25.toNat o36).f2).getD i59.toNat []) t82 _ (HS.getO 2 rfl) le75 (HS.getO 0 rfl) le81 ha83) (fun w84 HS => ?_)
  exact by (
  clear ha83
  refine v_ (Run.max2 rfl rfl rfl) ?_
  refine as_ ?_
  refine dn_ hK68 ?_
  clear hK68
  refine rg_ ?_
  exact by (
  refine b_ bin_add64 ?_
  refine mv_ ?_
  refine WL.done ?_
  exact WQ.round k64 (fun _ _ h_ => h_) (Nat.lt_succ_self _) ⟨(if i58 < t82 then t82 else i58), (wrap64 (i59 + 1)), rfl, ⟨_, H, Ho57⟩, (St.pick HS (fun W_ h_ => ⟨AllF.get 4 rfl h_, AllF.get 5 rfl h_, AllF.get 6 rfl h_, AllF.get 7 rfl h_, trivial⟩) (fun W_ h_ => trivial))⟩ ⟨rfl, rfl, rfl, rfl, rfl, rfl, rfl, rfl, trivial⟩ )))))))))))))))))))))))))
def spec_l10Matrix.g (k : Nat) (x0 : S36) (a1 : Int) (a2 : Int) : Option Bool := ((spec_MatrixOk.f k x0.f0 x0.f1 x0.f2 x0.f3 x0.f4).bind fun t5 => (if t5 = true then (if x0.f0 = a1 then (if (x0.f1.length : Int) = a2 then ((spec_l10Worst.f k x0.f0 x0.f1 x0.f2 x0.f3 x0.f4).bind fun t11 => (some (decide (t11 ≤ 600000)))) else (some false)) else (some false)) else (some false)))
theorem spec_l10Matrix.runs (k : Nat) (x0 : S36) (A0_1 : Option Addr) (c0_1 : Nat) (A0_2 : Option Addr) (c0_2 : Nat) (a1 : Int) (a2 : Int) (r : Bool) (w : World) (hr0_1 : (Kd.slice 3 (Kd.int .i64)).C w A0_1 x0.f1.length x0.f1) (hc0_1 : x0.f1.length ≤ c0_1) (hr0_2 : (Kd.slice 3 (Kd.int .i64)).C w A0_2 x0.f2.length x0.f2) (hc0_2 : x0.f2.length ≤ c0_2) (H : spec_l10Matrix.g k x0 a1 a2 = some r) :
    Calls Try.prog 63 #[.agg #[.int .i64 x0.f0, .slice A0_1 x0.f1.length c0_1, .slice A0_2 x0.f2.length c0_2, .int .i64 x0.f3, .int .i64 x0.f4], .int .i64 a1, .int .i64 a2] w fun e w' => e = .returned (.bool r) ∧ Below w.heap.size w w' := by
  unfold spec_l10Matrix.g at H
  have HS : St (fun _ => True) w w [] [(fun W => (Kd.slice 3 (Kd.int .i64)).C W A0_1 x0.f1.length x0.f1), (fun W => (Kd.slice 3 (Kd.int .i64)).C W A0_2 x0.f2.length x0.f2)] [] := St.start (foot_cons (foot_C (Kd.heap_slice _ (Kd.heap_int _)) hr0_1) (foot_cons (foot_C (Kd.heap_slice _ (Kd.heap_int _)) hr0_2) foot_nil))
  refine cw_ (n := 27) Try.func63 fun R_ hR_ => ?_
  refine sr_ fun _ hK1 => ?_
  refine bo_ HS (fun b2 w3 hb2 HS => ?_)
  refine as_ ?_
  exact by (
  refine dn_ hK1 ?_
  clear hK1
  refine sr_ fun _ hK4 => ?_
  refine v_ (ls_ (HS.mu 0 rfl) Try.underlying36 part_all) ?_
  obtain ⟨t5, ha6, H⟩ := bind_some H
  refine cs_ HS Try.func120 (spec_MatrixOk.calls k x0.f0 A0_1 c0_1 x0.f1 A0_2 c0_2 x0.f2 x0.f3 x0.f4 t5 _ (HS.getO 0 rfl) hc0_1 (HS.getO 1 rfl) hc0_2 ha6) (fun w7 HS => ?_)
  exact by (
  clear ha6
  refine mv_ ?_
  rcases eti_ H with ⟨c8, H⟩ | ⟨c8, H⟩
  · refine off_ (c' := false) (bF c8) ?_
    refine WL.know 9 (bF c8) ?_
    refine fast_ ?_
    exact by (
    refine via_ hK4 ?_
    clear hK4
    obtain rfl := os H
    exact rt1 Try.f63 rfl rfl hR_ ⟨rfl, HS.b⟩ )
  refine on_ c8 ?_
  refine v_ (fa_ Try.underlying36) ?_
  exact by (
  refine on_ c8 ?_
  refine v_ (lb_ (HS.mu 0 rfl) Try.underlying3 rfl) ?_
  refine on_ c8 ?_
  refine mv_ ?_
  refine on_ c8 ?_
  refine b_ bin_eql ?_
  exact by (
  refine v_ (Run.pickT rfl rfl c8 rfl) ?_
  refine mv_ ?_
  rcases eti_ H with ⟨c9, H⟩ | ⟨c9, H⟩
  · refine off_ (c' := false) (eF c9) ?_
    refine WL.know 15 (eF c9) ?_
    refine fast_ ?_
    exact by (
    refine via_ hK4 ?_
    clear hK4
    obtain rfl := os H
    exact rt1 Try.f63 rfl rfl hR_ ⟨rfl, HS.b⟩ )
  refine on_ (eT c9) ?_
  refine v_ (fa_ Try.underlying36) ?_
  exact by (
  refine on_ (eT c9) ?_
  refine v_ (lb_ (HS.mu 0 rfl) Try.underlying23 rfl) ?_
  refine on_ (eT c9) ?_
  refine ln_ Try.underlying23 ?_
  refine on_ (eT c9) ?_
  refine mv_ ?_
  exact by (
  refine on_ (eT c9) ?_
  refine b_ bin_eql ?_
  refine v_ (Run.pickT rfl rfl (eT c9) rfl) ?_
  refine mv_ ?_
  rcases eti_ H with ⟨c10, H⟩ | ⟨c10, H⟩
  · refine off_ (c' := false) (eF c10) ?_
    exact by (
    refine WL.know 22 (eF c10) ?_
    refine fast_ ?_
    refine via_ hK4 ?_
    clear hK4
    obtain rfl := os H
    exact rt1 Try.f63 rfl rfl hR_ ⟨rfl, HS.b⟩ )
  exact by (
  refine on_ (eT c10) ?_
  refine v_ (ls_ (HS.mu 0 rfl) Try.underlying36 part_all) ?_
  refine on_ (eT c10) ?_
  obtain ⟨t11, ha12, H⟩ := bind_some H
  refine cs_ HS Try.func86 (spec_l10Worst.calls k x0.f0 A0_1 c0_1 x0.f1 A0_2 c0_2 x0.f2 x0.f3 x0.f4 t11 _ (HS.getO 0 rfl) hc0_1 (HS.getO 1 rfl) hc0_2 ha12) (fun w13 HS => ?_)
  clear ha12
  exact by (
  refine on_ (eT c10) ?_
  refine b_ bin_leq ?_
  refine v_ (Run.pickT rfl rfl (eT c10) rfl) ?_
  refine as_ ?_
  refine dn_ hK4 ?_
  clear hK4
  obtain rfl := os H
  exact rt1 Try.f63 rfl rfl hR_ ⟨rfl, HS.b⟩ ))))))))
def spec_LayerOk.g (k : Nat) (x0 : S48) (a1 : Int) : Option Bool := ((spec_l05Width.f a1).bind fun t10 => (if t10 = true then ((spec_l05Width.f (x0.f6.f1.length : Int)).bind fun t14 => (if t14 = true then ((spec_GainOk.f k x0.f0 a1).bind fun t22 => (if t22 = true then ((spec_GainOk.f k x0.f5 a1).bind fun t30 => (if t30 = true then ((spec_l10Matrix.g k x0.f1 a1 a1).bind fun t42 => (if t42 = true then ((spec_l10Matrix.g k x0.f2 a1 a1).bind fun t54 => (if t54 = true then ((spec_l10Matrix.g k x0.f3 a1 a1).bind fun t66 => (if t66 = true then ((spec_l10Matrix.g k x0.f4 a1 a1).bind fun t78 => (if t78 = true then ((spec_l10Matrix.g k x0.f6 a1 (x0.f6.f1.length : Int)).bind fun t86 => (if t86 = true then ((spec_l10Matrix.g k x0.f7 (x0.f6.f1.length : Int) a1).bind fun t98 => (some t98)) else (some false))) else (some false))) else (some false))) else (some false))) else (some false))) else (some false))) else (some false))) else (some false))) else (some false)))
theorem spec_LayerOk.runs (k : Nat) (cs0 : List Value) (x0 : S48) (a1 : Int) (r : Bool) (w : World) (hk0 : k48.K w x0 cs0) (H : spec_LayerOk.g k x0 a1 = some r) :
    Calls Try.prog 20 #[.agg cs0.toArray, .int .i64 a1] w fun e w' => e = .returned (.bool r) ∧ Below w.heap.size w w' := by
  have el0 : cs0.length = 32 := k48.K_len hk0
  unfold spec_LayerOk.g at H
  have HS : St (fun _ => True) w w [] [(fun W => k48.K W x0 cs0)] [] := St.start (foot_cons (foot_K h48 hk0) foot_nil)
  refine cw_ (n := 70) Try.func20 fun R_ hR_ => ?_
  refine sr_ fun _ hK1 => ?_
  refine bo_ HS (fun b2 w3 hb2 HS => ?_)
  exact by (
  refine as_ ?_
  refine dn_ hK1 ?_
  clear hK1
  refine sr_ fun _ hK4 => ?_
  refine v_ (fa_ Try.underlying48) ?_
  refine v_ (fa_ Try.underlying36) ?_
  exact by (
  obtain ⟨A5, c6, hc7, le8, HS⟩ := HS.sO 0 rfl at48_23
  refine v_ (lb_ (HS.mu 0 rfl) Try.underlying23 hc7) ?_
  refine ln_ Try.underlying23 ?_
  refine as_ ?_
  refine dn_ hK4 ?_
  clear hK4
  exact by (
  refine sr_ fun _ hK9 => ?_
  refine mv_ ?_
  obtain ⟨t10, ha11, H⟩ := bind_some H
  refine cs0_ HS Try.func61 (spec_l05Width.calls a1 t10 _ ha11) (fun w12 HS => ?_)
  clear ha11
  refine mv_ ?_
  exact by (
  rcases eti_ H with ⟨c13, H⟩ | ⟨c13, H⟩
  · refine off_ (c' := false) (bF c13) ?_
    refine WL.know 12 (bF c13) ?_
    refine fast_ ?_
    refine via_ hK9 ?_
    clear hK9
    obtain rfl := os H
    exact rt1 Try.f20 rfl rfl hR_ ⟨rfl, HS.b⟩
  exact by (
  refine on_ c13 ?_
  refine mv_ ?_
  refine on_ c13 ?_
  obtain ⟨t14, ha15, H⟩ := bind_some H
  refine cs0_ HS Try.func61 (spec_l05Width.calls (x0.f6.f1.length : Int) t14 _ ha15) (fun w16 HS => ?_)
  clear ha15
  exact by (
  refine v_ (Run.pickT rfl rfl c13 rfl) ?_
  refine mv_ ?_
  rcases eti_ H with ⟨c17, H⟩ | ⟨c17, H⟩
  · refine off_ (c' := false) (bF c17) ?_
    refine WL.know 16 (bF c17) ?_
    refine fast_ ?_
    exact by (
    refine via_ hK9 ?_
    clear hK9
    obtain rfl := os H
    exact rt1 Try.f20 rfl rfl hR_ ⟨rfl, HS.b⟩ )
  refine on_ c17 ?_
  refine v_ (fa_ Try.underlying48) ?_
  exact by (
  refine on_ c17 ?_
  obtain ⟨A18, c19, hc20, le21, HS⟩ := HS.sO 1 rfl at48_0
  refine v_ (lb_ (HS.mu 0 rfl) Try.underlying25 hc20) ?_
  refine on_ c17 ?_
  refine mv_ ?_
  refine on_ c17 ?_
  exact by (
  obtain ⟨t22, ha23, H⟩ := bind_some H
  refine cs0_ HS Try.func62 (spec_GainOk.calls k A18 c19 x0.f0 a1 t22 _ (HS.getO 0 rfl) le21 ha23) (fun w24 HS => ?_)
  clear ha23
  refine v_ (Run.pickT rfl rfl c17 rfl) ?_
  refine mv_ ?_
  rcases eti_ H with ⟨c25, H⟩ | ⟨c25, H⟩
  · refine off_ (c' := false) (bF c25) ?_
    exact by (
    refine WL.know 22 (bF c25) ?_
    refine fast_ ?_
    refine via_ hK9 ?_
    clear hK9
    obtain rfl := os H
    exact rt1 Try.f20 rfl rfl hR_ ⟨rfl, HS.b⟩ )
  exact by (
  refine on_ c25 ?_
  refine v_ (fa_ Try.underlying48) ?_
  refine on_ c25 ?_
  obtain ⟨A26, c27, hc28, le29, HS⟩ := HS.sO 2 rfl at48_21
  refine v_ (lb_ (HS.mu 0 rfl) Try.underlying25 hc28) ?_
  refine on_ c25 ?_
  exact by (
  refine mv_ ?_
  refine on_ c25 ?_
  obtain ⟨t30, ha31, H⟩ := bind_some H
  refine cs0_ HS Try.func62 (spec_GainOk.calls k A26 c27 x0.f5 a1 t30 _ (HS.getO 0 rfl) le29 ha31) (fun w32 HS => ?_)
  clear ha31
  refine v_ (Run.pickT rfl rfl c25 rfl) ?_
  exact by (
  refine mv_ ?_
  rcases eti_ H with ⟨c33, H⟩ | ⟨c33, H⟩
  · refine off_ (c' := false) (bF c33) ?_
    refine WL.know 28 (bF c33) ?_
    refine fast_ ?_
    refine via_ hK9 ?_
    exact by (
    clear hK9
    obtain rfl := os H
    exact rt1 Try.f20 rfl rfl hR_ ⟨rfl, HS.b⟩ )
  refine on_ c33 ?_
  refine v_ (fa_ Try.underlying48) ?_
  refine on_ c33 ?_
  exact by (
  obtain ⟨A34, c35, hc36, le37, HS⟩ := HS.sO 3 rfl at48_2
  obtain ⟨A38, c39, hc40, le41, HS⟩ := HS.sO 4 rfl at48_3
  refine v_ (ls_ (HS.mu 0 rfl) Try.underlying36 (part_cons (at48_1 (HS.aO 5 rfl)).int (part_cons hc36 (part_cons hc40 (part_cons (at48_4 (HS.aO 5 rfl)).int (part_cons (at48_5 (HS.aO 5 rfl)).int part_nil)))))) ?_
  refine on_ c33 ?_
  refine mv_ ?_
  refine on_ c33 ?_
  exact by (
  refine mv_ ?_
  refine on_ c33 ?_
  obtain ⟨t42, ha43, H⟩ := bind_some H
  refine cs_ HS Try.func63 (spec_l10Matrix.runs k x0.f1 A34 c35 A38 c39 a1 a1 t42 _ (HS.getO 1 rfl) le37 (HS.getO 0 rfl) le41 ha43) (fun w44 HS => ?_)
  clear ha43
  refine v_ (Run.pickT rfl rfl c33 rfl) ?_
  exact by (
  refine mv_ ?_
  rcases eti_ H with ⟨c45, H⟩ | ⟨c45, H⟩
  · refine off_ (c' := false) (bF c45) ?_
    refine WL.know 35 (bF c45) ?_
    refine fast_ ?_
    refine via_ hK9 ?_
    exact by (
    clear hK9
    obtain rfl := os H
    exact rt1 Try.f20 rfl rfl hR_ ⟨rfl, HS.b⟩ )
  refine on_ c45 ?_
  refine v_ (fa_ Try.underlying48) ?_
  refine on_ c45 ?_
  exact by (
  obtain ⟨A46, c47, hc48, le49, HS⟩ := HS.sO 5 rfl at48_7
  obtain ⟨A50, c51, hc52, le53, HS⟩ := HS.sO 6 rfl at48_8
  refine v_ (ls_ (HS.mu 0 rfl) Try.underlying36 (part_cons (at48_6 (HS.aO 7 rfl)).int (part_cons hc48 (part_cons hc52 (part_cons (at48_9 (HS.aO 7 rfl)).int (part_cons (at48_10 (HS.aO 7 rfl)).int part_nil)))))) ?_
  refine on_ c45 ?_
  refine mv_ ?_
  refine on_ c45 ?_
  exact by (
  refine mv_ ?_
  refine on_ c45 ?_
  obtain ⟨t54, ha55, H⟩ := bind_some H
  refine cs_ HS Try.func63 (spec_l10Matrix.runs k x0.f2 A46 c47 A50 c51 a1 a1 t54 _ (HS.getO 1 rfl) le49 (HS.getO 0 rfl) le53 ha55) (fun w56 HS => ?_)
  clear ha55
  refine v_ (Run.pickT rfl rfl c45 rfl) ?_
  exact by (
  refine mv_ ?_
  rcases eti_ H with ⟨c57, H⟩ | ⟨c57, H⟩
  · refine off_ (c' := false) (bF c57) ?_
    refine WL.know 42 (bF c57) ?_
    refine fast_ ?_
    refine via_ hK9 ?_
    exact by (
    clear hK9
    obtain rfl := os H
    exact rt1 Try.f20 rfl rfl hR_ ⟨rfl, HS.b⟩ )
  refine on_ c57 ?_
  refine v_ (fa_ Try.underlying48) ?_
  refine on_ c57 ?_
  exact by (
  obtain ⟨A58, c59, hc60, le61, HS⟩ := HS.sO 7 rfl at48_12
  obtain ⟨A62, c63, hc64, le65, HS⟩ := HS.sO 8 rfl at48_13
  refine v_ (ls_ (HS.mu 0 rfl) Try.underlying36 (part_cons (at48_11 (HS.aO 9 rfl)).int (part_cons hc60 (part_cons hc64 (part_cons (at48_14 (HS.aO 9 rfl)).int (part_cons (at48_15 (HS.aO 9 rfl)).int part_nil)))))) ?_
  refine on_ c57 ?_
  refine mv_ ?_
  refine on_ c57 ?_
  exact by (
  refine mv_ ?_
  refine on_ c57 ?_
  obtain ⟨t66, ha67, H⟩ := bind_some H
  refine cs_ HS Try.func63 (spec_l10Matrix.runs k x0.f3 A58 c59 A62 c63 a1 a1 t66 _ (HS.getO 1 rfl) le61 (HS.getO 0 rfl) le65 ha67) (fun w68 HS => ?_)
  clear ha67
  refine v_ (Run.pickT rfl rfl c57 rfl) ?_
  exact by (
  refine mv_ ?_
  rcases eti_ H with ⟨c69, H⟩ | ⟨c69, H⟩
  · refine off_ (c' := false) (bF c69) ?_
    refine WL.know 49 (bF c69) ?_
    refine fast_ ?_
    refine via_ hK9 ?_
    exact by (
    clear hK9
    obtain rfl := os H
    exact rt1 Try.f20 rfl rfl hR_ ⟨rfl, HS.b⟩ )
  refine on_ c69 ?_
  refine v_ (fa_ Try.underlying48) ?_
  refine on_ c69 ?_
  exact by (
  obtain ⟨A70, c71, hc72, le73, HS⟩ := HS.sO 9 rfl at48_17
  obtain ⟨A74, c75, hc76, le77, HS⟩ := HS.sO 10 rfl at48_18
  refine v_ (ls_ (HS.mu 0 rfl) Try.underlying36 (part_cons (at48_16 (HS.aO 11 rfl)).int (part_cons hc72 (part_cons hc76 (part_cons (at48_19 (HS.aO 11 rfl)).int (part_cons (at48_20 (HS.aO 11 rfl)).int part_nil)))))) ?_
  refine on_ c69 ?_
  refine mv_ ?_
  refine on_ c69 ?_
  exact by (
  refine mv_ ?_
  refine on_ c69 ?_
  obtain ⟨t78, ha79, H⟩ := bind_some H
  refine cs_ HS Try.func63 (spec_l10Matrix.runs k x0.f4 A70 c71 A74 c75 a1 a1 t78 _ (HS.getO 1 rfl) le73 (HS.getO 0 rfl) le77 ha79) (fun w80 HS => ?_)
  clear ha79
  refine v_ (Run.pickT rfl rfl c69 rfl) ?_
  exact by (
  refine mv_ ?_
  rcases eti_ H with ⟨c81, H⟩ | ⟨c81, H⟩
  · refine off_ (c' := false) (bF c81) ?_
    refine WL.know 56 (bF c81) ?_
    refine fast_ ?_
    refine via_ hK9 ?_
    exact by (
    clear hK9
    obtain rfl := os H
    exact rt1 Try.f20 rfl rfl hR_ ⟨rfl, HS.b⟩ )
  refine on_ c81 ?_
  refine v_ (fa_ Try.underlying48) ?_
  refine on_ c81 ?_
  exact by (
  obtain ⟨A82, c83, hc84, le85, HS⟩ := HS.sO 11 rfl at48_24
  refine v_ (ls_ (HS.mu 0 rfl) Try.underlying36 (part_cons (at48_22 (HS.aO 12 rfl)).int (part_cons hc7 (part_cons hc84 (part_cons (at48_25 (HS.aO 12 rfl)).int (part_cons (at48_26 (HS.aO 12 rfl)).int part_nil)))))) ?_
  refine on_ c81 ?_
  refine mv_ ?_
  refine on_ c81 ?_
  refine mv_ ?_
  exact by (
  refine on_ c81 ?_
  obtain ⟨t86, ha87, H⟩ := bind_some H
  refine cs_ HS Try.func63 (spec_l10Matrix.runs k x0.f6 A5 c6 A82 c83 a1 (x0.f6.f1.length : Int) t86 _ (HS.getO 11 rfl) le8 (HS.getO 0 rfl) le85 ha87) (fun w88 HS => ?_)
  clear ha87
  refine v_ (Run.pickT rfl rfl c81 rfl) ?_
  refine mv_ ?_
  exact by (
  rcases eti_ H with ⟨c89, H⟩ | ⟨c89, H⟩
  · refine off_ (c' := false) (bF c89) ?_
    refine WL.know 63 (bF c89) ?_
    refine fast_ ?_
    refine via_ hK9 ?_
    clear hK9
    obtain rfl := os H
    exact rt1 Try.f20 rfl rfl hR_ ⟨rfl, HS.b⟩
  exact by (
  refine on_ c89 ?_
  refine v_ (fa_ Try.underlying48) ?_
  refine on_ c89 ?_
  obtain ⟨A90, c91, hc92, le93, HS⟩ := HS.sO 12 rfl at48_28
  obtain ⟨A94, c95, hc96, le97, HS⟩ := HS.sO 13 rfl at48_29
  refine v_ (ls_ (HS.mu 0 rfl) Try.underlying36 (part_cons (at48_27 (HS.aO 14 rfl)).int (part_cons hc92 (part_cons hc96 (part_cons (at48_30 (HS.aO 14 rfl)).int (part_cons (at48_31 (HS.aO 14 rfl)).int part_nil)))))) ?_
  exact by (
  refine on_ c89 ?_
  refine mv_ ?_
  refine on_ c89 ?_
  refine mv_ ?_
  refine on_ c89 ?_
  obtain ⟨t98, ha99, H⟩ := bind_some H
  exact by (
  refine cs_ HS Try.func63 (spec_l10Matrix.runs k x0.f7 A90 c91 A94 c95 (x0.f6.f1.length : Int) a1 t98 _ (HS.getO 1 rfl) le93 (HS.getO 0 rfl) le97 ha99) (fun w100 HS => ?_)
  clear ha99
  refine v_ (Run.pickT rfl rfl c89 rfl) ?_
  refine as_ ?_
  refine dn_ hK9 ?_
  clear hK9
  obtain rfl := os H
  exact rt1 Try.f20 rfl rfl hR_ ⟨rfl, HS.b⟩ )))))))))))))))))))))))))))))
end Go.Proofs.Ytacbkcofcbglhaa.PFnBudget
