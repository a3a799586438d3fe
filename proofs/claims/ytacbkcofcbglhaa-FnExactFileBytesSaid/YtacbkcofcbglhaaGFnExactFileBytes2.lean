/- Functions that the statement reaches, as Lean functions, and the proof that a call of each comes to just its answer; written by this claim's own program. No conditions. -/
import Derived.Test.YtacbkcofcbglhaaGFnExactFileBytes1
namespace Go.Proofs.Ytacbkcofcbglhaa.PFnExactFileBytes
open Go.RowKit Go.Proofs.YtacbkcofcbglhaaW.PrintWords Go.Proofs.YtacbkcofcbglhaaW.PrintLast Go.Proofs.YtacbkcofcbglhaaW.PrintMore Go.Proofs.Ytacbkcofcbglhaa.XW Go.Proofs.Ytacbkcofcbglhaa.XOp Go.Proofs.Ytacbkcofcbglhaa.XSt Go.Proofs.Ytacbkcofcbglhaa.XDraw
set_option linter.unusedVariables false
set_option linter.unusedSimpArgs false
set_option maxHeartbeats 4000000
set_option maxRecDepth 20000
def impl_sizesOf.b0 (l0 : List S112) (rec_ : Int → (List Int) → Option (((List Int) × Bool) ⊕ (Int × (List Int)))) (k30 : Nat) (i17 : Int) (xs18 : List Int) : Option (((List Int) × Bool) ⊕ (Int × (List Int))) := (if i17 < (l0.length : Int) then (if 0 ≤ i17 ∧ i17 < (l0.length : Int) then ((impl_isToken.f ((l0.getD i17.toNat o112).f0) i17).bind fun t46 => (if t46 = true then ((impl_isToken.f ((l0.getD i17.toNat o112).f1) i17).bind fun t50 => (if t50 = true then ((impl_sizesOf_1.g k30 ((l0.getD i17.toNat o112).f0) xs18).bind fun t58 => ((impl_sizesOf_1.g k30 ((l0.getD i17.toNat o112).f1) xs18).bind fun t61 => (if (wrap64 (t58 + t61)) > 64 then (some (Sum.inl ([], false))) else (if (xs18.length) < 4294967296 then (rec_ (wrap64 (i17 + 1)) (xs18 ++ [wrap64 (t58 + t61)])) else none)))) else (some (Sum.inl ([], false))))) else (some (Sum.inl ([], false))))) else none) else (some (Sum.inr (i17, xs18))))
def impl_sizesOf.l0 (l0 : List S112) : Nat → Int → (List Int) → Option (((List Int) × Bool) ⊕ (Int × (List Int)))
  | 0, _, _ => none
  | k + 1, i17, xs18 => impl_sizesOf.b0 l0 (impl_sizesOf.l0 l0 k) k i17 xs18
def impl_sizesOf.g (k : Nat) (l0 : List S112) : Option ((List Int) × Bool) := ((impl_sizesOf.l0 l0 k 0 ([] : List Int)).bind (fun oc28 => match oc28 with | .inl r_ => some r_ | .inr ⟨i17, xs18⟩ => (some (xs18, true))))
theorem impl_sizesOf.runs (k : Nat) (A0 : Option Addr) (c0 : Nat) (l0 : List S112) (r1 : List Int) (r2 : Bool) (w : World) (hr0 : k112.C w A0 l0.length l0) (hc0 : l0.length ≤ c0) (H : impl_sizesOf.g k l0 = some (r1, r2)) :
    Calls Try.prog 123 #[.slice A0 l0.length c0] w fun e w' => ∃ (A0_ : Option Addr) (c0_ : Nat), e = .returned (.tuple #[.slice A0_ r1.length c0_, .bool r2]) ∧ r1.length ≤ c0_ ∧ Foot (cF kI A0_ r1) w' (fun k_ => w.heap.size ≤ k_) ∧ Below w.heap.size w w' := by
  unfold impl_sizesOf.g at H
  have HS : St (fun _ => True) w w [] [(cF k112 A0 l0)] [] := St.start (foot_cons (foot_C h112 hr0) foot_nil)
  refine cw_ (n := 47) Try.func123 fun R_ hR_ => ?_
  refine sr_ fun _ hK1 => ?_
  refine as_ ?_
  refine as_ ?_
  refine dn_ hK1 ?_
  refine sr_ fun _ hK2 => ?_
  refine WL.lit0 HS rfl rfl (by decide) rfl Try.underlying25 (sz := 1) (by kernel_rfl) (fun v3 w4 HS => ?_)
  replace HS := HS.deriveN (p := (rF kI ([] : List Int) [])) (fun _ _ => Reps.none _ _)
  refine WL.alloc HS (v := .slice none 0 0) (cs := #[.slice none 0 0]) rfl rfl (by decide) rfl (by kernel_rfl) rfl (fun b5 w6 hb5 HS => ?_)
  obtain ⟨A8, c9, rfl⟩ := row_slice (HS.mu 1 rfl)
  refine WL.store HS 0 rfl rfl rfl rfl rfl rfl rfl (by kernel_rfl) (Nat.le_of_ble_eq_true rfl) (cs' := #[(.slice A8 0 c9)]) (by kernel_rfl) (fun w7 HS => ?_)
  dsimp only [List.set] at HS
  refine dn_ hK2 ?_
  refine sr_ fun _ hK10 => ?_
  refine v_ (Run.makeFunc (cap := [.pointer (some ⟨b5, 0, none⟩)]) rfl rfl) ?_
  refine as_ ?_
  refine dn_ hK10 ?_
  refine WC.seq fun K11 hK11 => ?_
  refine sr_ fun _ hK12 => ?_
  refine mv_ ?_
  refine ln_ Try.underlying34 ?_
  refine mv_ ?_
  refine dn_ hK12 ?_
  refine WC.block ?_
  obtain ⟨G13, hG14, oc15, H, Ho16⟩ := open_G H
  let J21 := fun (i17 : Int) (xs18 : List Int) (v19 : Value) (I20 : List Value) (E_ : Env) (W_ : World) => E_ = [(4, .pointer (some ⟨b5, 0, none⟩)), (5, .func (.func 147) #[] #[.pointer (some ⟨b5, 0, none⟩)]), (11, .slice A0 l0.length c0), (12, .int .i64 (l0.length : Int)), (13, .int .i64 i17)] ∧ St (fun _ => True) w W_ [boxM b5 #[v19] 25, rowM w.heap.size 3 1 v19 xs18.length I20] [(cF k112 A0 l0)] [(rF kI xs18 I20)]
  have X22 : ∀ E_ W_, (∃ i17 xs18 v19 I20, G13 (Sum.inr (i17, xs18)) = some (r1, r2) ∧ J21 i17 xs18 v19 I20 E_ W_) → ∀ a, Fits a 47 E_ → K11 a W_ := by
    rintro E_ w23 ⟨i17, xs18, v19, I20, H, rfl, HS⟩
    rw [hG14] at H
    (try dsimp only at H)
    refine hK11 _ _ ?_
    refine sr_ fun _ hK24 => ?_
    obtain ⟨A25, c26, rfl⟩ := row_slice (HS.mu 1 rfl)
    refine v_ (lb_ (HS.mu 0 rfl) Try.underlying25 rfl) ?_
    refine as_ ?_
    refine as_ ?_
    refine dn_ hK24 ?_
    refine WC.ret ?_
    have le27 := row_le (HS.mu 1 rfl)
    replace HS := HS.freezeN 1 (p := (cF kI A25 (xs18))) rfl (fun W_ hm_ h_ => row_C (by rfl) hm_ h_.1)
    dsimp only [List.eraseIdx] at HS
    obtain ⟨rfl, rfl⟩ := Prod.mk.inj (os H)
    exact fin2 Try.f123 rfl rfl rfl hR_ ⟨_, _, rfl, le27, (foot_fresh (HS.footN 0 rfl)), HS.b⟩
  refine WC.loop (fun k_ E_ W_ => ∃ i17 xs18 v19 I20, (∃ o_, impl_sizesOf.l0 l0 k_ i17 xs18 = some o_ ∧ G13 o_ = some (r1, r2)) ∧ J21 i17 xs18 v19 I20 E_ W_) k ⟨0, ([] : List Int), (.slice A8 0 c9), ([]), ⟨_, H, Ho16⟩, rfl, HS⟩ (sb rfl) ?_
  rintro k_ E_ w29 ⟨i17, xs18, v19, I20, ⟨oc15, H, Ho16⟩, rfl, HS⟩
  rcases k_ with _ | k30
  · exact no_ H
  replace H : impl_sizesOf.b0 l0 (impl_sizesOf.l0 l0 k30) k30 i17 xs18 = some oc15 := H
  unfold impl_sizesOf.b0 at H
  refine sr_ fun _ hK31 => ?_
  refine b_ bin_lss ?_
  refine dn_ hK31 ?_
  refine WC.seq fun _ hK32 => ?_
  rcases eti_ H with ⟨c33, H⟩ | ⟨c33, H⟩
  · refine wn_ (dF c33) ?_
    refine WC.exit ?_
    obtain rfl := os H
    exact WQ.via2 (fun _ _ h_ => h_) X22 ⟨i17, xs18, v19, I20, Ho16, rfl, HS⟩ (sb rfl)
  refine wy_ (dT c33) ?_
  refine WC.skip ?_
  refine via_ hK32 ?_
  refine WC.seq fun _ hK34 => ?_
  refine WC.block ?_
  refine sr_ fun _ hK35 => ?_
  refine mv_ ?_
  obtain ⟨⟨q36, q37⟩, H⟩ := if_some H
  obtain ⟨ad38, rfl⟩ := C_open (HS.getO 0 rfl) (by omega)
  refine v_ (ia_ Try.underlying34 2 q36 q37) ?_
  obtain ⟨e39, el40, HS⟩ := HS.elO 0 rfl (by decide) o112 i17 q36 q37
  refine v_ (Run.loadS (cs := [.int .i64 ((l0.getD i17.toNat o112).f0), .int .i64 ((l0.getD i17.toNat o112).f1)]) rfl rfl Try.underlying112 rfl (by kernel_rfl) (cells_part (HS.getO 0 rfl).2 (part_cons (at112_0 (AtK.whole (HS.getO 0 rfl).1)).int (part_cons (at112_1 (AtK.whole (HS.getO 0 rfl).1)).int part_nil)))) ?_
  refine WL.alloc HS (v := .agg #[.int .i64 0, .int .i64 0]) (cs := #[.int .i64 0, .int .i64 0]) rfl rfl (by decide) rfl (by kernel_rfl) rfl (fun b41 w42 hb41 HS => ?_)
  refine as_ ?_
  refine WL.storeW HS 0 rfl rfl rfl rfl rfl rfl (oneL rfl) (by kernel_rfl) rfl (fun w43 HS => ?_)
  dsimp only [List.set] at HS
  refine dn_ hK35 ?_
  refine WC.seq fun _ hK44 => ?_
  refine sr_ fun _ hK45 => ?_
  refine v_ (fa_ Try.underlying112) ?_
  refine v_ (lb_ (HS.mu 0 rfl) Try.underlying3 rfl) ?_
  refine mv_ ?_
  obtain ⟨t46, ha47, H⟩ := bind_some H
  refine cs0_ HS Try.func148 (impl_isToken.calls ((l0.getD i17.toNat o112).f0) i17 t46 _ ha47) (fun w48 HS => ?_)
  clear ha47
  refine nt_ ?_
  refine mv_ ?_
  rcases eti_ H with ⟨c49, H⟩ | ⟨c49, H⟩
  · refine off_ (c' := true) (nB (bF c49)) ?_
    refine WL.know 23 (nB (bF c49)) ?_
    refine fast_ ?_
    refine via_ hK45 ?_
    refine wy_ rfl ?_
    refine sr_ fun _ hK77 => ?_
    refine as_ ?_
    refine as_ ?_
    refine dn_ hK77 ?_
    refine WC.ret ?_
    obtain rfl := os H
    rw [hG14] at Ho16
    replace H : some _ = some _ := Ho16
    obtain ⟨rfl, rfl⟩ := Prod.mk.inj (os H)
    exact fin2 Try.f123 rfl rfl rfl hR_ ⟨_, _, rfl, (Nat.le_refl _), (fun W_ _ => Kd.C_nil _ _), HS.b⟩
  refine on_ (nB c49) ?_
  refine v_ (fa_ Try.underlying112) ?_
  refine on_ (nB c49) ?_
  refine v_ (lb_ (HS.mu 0 rfl) Try.underlying3 rfl) ?_
  refine on_ (nB c49) ?_
  refine mv_ ?_
  refine on_ (nB c49) ?_
  obtain ⟨t50, ha51, H⟩ := bind_some H
  refine cs0_ HS Try.func148 (impl_isToken.calls ((l0.getD i17.toNat o112).f1) i17 t50 _ ha51) (fun w52 HS => ?_)
  clear ha51
  refine on_ (nB c49) ?_
  refine nt_ ?_
  refine v_ (Run.pickF rfl rfl (nB c49) rfl) ?_
  refine dn_ hK45 ?_
  rcases eti_ H with ⟨c53, H⟩ | ⟨c53, H⟩
  · refine wy_ (nB (bF c53)) ?_
    refine sr_ fun _ hK76 => ?_
    refine as_ ?_
    refine as_ ?_
    refine dn_ hK76 ?_
    refine WC.ret ?_
    obtain rfl := os H
    rw [hG14] at Ho16
    replace H : some _ = some _ := Ho16
    obtain ⟨rfl, rfl⟩ := Prod.mk.inj (os H)
    exact fin2 Try.f123 rfl rfl rfl hR_ ⟨_, _, rfl, (Nat.le_refl _), (fun W_ _ => Kd.C_nil _ _), HS.b⟩
  refine wn_ (nB c53) ?_
  refine WC.skip ?_
  refine via_ hK44 ?_
  refine WC.seq fun _ hK54 => ?_
  refine WC.drawS HS [] rfl rfl (fun w55 HS => ?_)
  have HB := Below.refl w55.heap.size w55
  have HSW := HS
  refine dm_ 0 ?_
  refine df_ 1 Try.underlying112 ?_
  refine dm_ 4 ?_
  refine df_ 5 Try.underlying112 ?_
  refine bl_ 2 HS (Below.refl _ _) 0 Try.underlying3 rfl ?_
  refine bl_ 6 HS (Below.refl _ _) 0 Try.underlying3 rfl ?_
  obtain ⟨A56, c57, rfl⟩ := row_slice (HS.mu 2 rfl)
  obtain ⟨t58, ha59, H⟩ := bind_some H
  refine dcv_ (args := [.int .i64 ((l0.getD i17.toNat o112).f0)]) (cap := [.pointer (some ⟨b5, 0, none⟩)]) 3 (w_none rfl) Try.func147 (impl_sizesOf_1.runs k30 ((l0.getD i17.toNat o112).f0) b5 A56 c57 xs18 t58 _ (row_C rfl (HS.mu 2 rfl) (HS.getN 0 rfl)) (row_le (HS.mu 2 rfl)) (HS.mu 1 rfl) ha59) ?_
  clear ha59
  rintro _ w60 ⟨rfl, hb⟩
  replace HB := HB.trans (hb.mono HB.size)
  replace HS := HS.below hb
  refine ⟨HB, _, rfl, ?_⟩
  clear hb
  obtain ⟨t61, ha62, H⟩ := bind_some H
  refine dcv_ (args := [.int .i64 ((l0.getD i17.toNat o112).f1)]) (cap := [.pointer (some ⟨b5, 0, none⟩)]) 7 (w_none rfl) Try.func147 (impl_sizesOf_1.runs k30 ((l0.getD i17.toNat o112).f1) b5 A56 c57 xs18 t61 _ (row_C rfl (HS.mu 2 rfl) (HS.getN 0 rfl)) (row_le (HS.mu 2 rfl)) (HS.mu 1 rfl) ha62) ?_
  clear ha62
  rintro _ w63 ⟨rfl, hb⟩
  replace HB := HB.trans (hb.mono HB.size)
  replace HS := HS.below hb
  refine ⟨HB, _, rfl, ?_⟩
  clear hb
  refine dp_ 8 (fun _ => Run.bin rfl rfl rfl bin_add64) ?_
  refine dp_ 9 (fun _ => Run.assign rfl rfl) ?_
  refine dd_ ?_
  clear HB HSW
  refine via_ hK54 ?_
  refine WC.seq fun _ hK64 => ?_
  refine sr_ fun _ hK65 => ?_
  refine mv_ ?_
  refine b_ bin_gtr ?_
  refine dn_ hK65 ?_
  rcases ite_ H with ⟨c66, H⟩ | ⟨c66, H⟩
  · refine wy_ (dT c66) ?_
    refine sr_ fun _ hK67 => ?_
    refine as_ ?_
    refine as_ ?_
    refine dn_ hK67 ?_
    refine WC.ret ?_
    obtain rfl := os H
    rw [hG14] at Ho16
    replace H : some _ = some _ := Ho16
    obtain ⟨rfl, rfl⟩ := Prod.mk.inj (os H)
    exact fin2 Try.f123 rfl rfl rfl hR_ ⟨_, _, rfl, (Nat.le_refl _), (fun W_ _ => Kd.C_nil _ _), HS.b⟩
  refine wn_ (dF c66) ?_
  refine WC.skip ?_
  refine via_ hK64 ?_
  refine rg_ ?_
  refine v_ (lb_ (HS.mu 1 rfl) Try.underlying25 rfl) ?_
  refine mv_ ?_
  refine WL.val rfl rfl (by decide) (Run.lit1 (z := (.int .i64 0)) (vs := [.int .i64 (wrap64 (t58 + t61))]) rfl rfl rfl Try.underlying25 (by kernel_rfl) (Nat.le_of_ble_eq_true rfl) (Nat.le_of_ble_eq_true rfl)) ?_
  have HS1 := HS.below (below_alloc (Below.refl _ _) (.cells #[.int .i64 (wrap64 (t58 + t61))] 3))
  obtain ⟨q68, H⟩ := if_some H
  refine WL.append HS1 2 rfl rfl rfl (by decide) rfl (.int .i64 0) 8 Try.underlying25 (by kernel_rfl) rfl (by decide) (by decide) rfl rfl [.int .i64 (wrap64 (t58 + t61))] rfl (lit_news _ _ _) (oneL rfl) (by omega) ((xs18 ++ [wrap64 (t58 + t61)]).length) (by simp) (fun v69 w70 I71 hI72 HS => ?_)
  dsimp only [List.set] at HS
  replace HS := HS.deriveN (p := (rF kI (xs18 ++ [wrap64 (t58 + t61)]) I71)) (fun W_ hN_ => reps_snoc hI72 hN_.1 (K_int _))
  clear HS1
  obtain ⟨A74, c75, rfl⟩ := row_slice (HS.mu 2 rfl)
  refine WL.store HS 1 rfl rfl rfl rfl rfl rfl rfl (by kernel_rfl) (Nat.le_of_ble_eq_true rfl) (cs' := #[(.slice A74 ((xs18 ++ [wrap64 (t58 + t61)]).length) c75)]) (by kernel_rfl) (fun w73 HS => ?_)
  dsimp only [List.set] at HS
  refine dn_ hK34 ?_
  refine rg_ ?_
  refine b_ bin_add64 ?_
  refine mv_ ?_
  refine WL.done ?_
  exact WQ.round k30 (fun _ _ h_ => h_) (Nat.lt_succ_self _) ⟨(wrap64 (i17 + 1)), (xs18 ++ [wrap64 (t58 + t61)]), (.slice A74 ((xs18 ++ [wrap64 (t58 + t61)]).length) c75), I71, ⟨_, H, Ho16⟩, rfl, (St.pk (St.forget HS 0 rfl) [1] [0] rfl rfl)⟩ (sb rfl)
def impl_MergesOk.b0 (l0 : List S112) (rec_ : Int → Option (Bool ⊕ Int)) (k27 : Nat) (i12 : Int) : Option (Bool ⊕ Int) := (if i12 < (l0.length : Int) then (if 0 ≤ i12 ∧ i12 < (l0.length : Int) then (if 0 ≤ i12 ∧ i12 ≤ (l0.length : Int) then ((slices_Contains_impl_Merge_impl_Merge.g k27 (l0.take i12.toNat) (⟨(l0.getD i12.toNat o112).f0, (l0.getD i12.toNat o112).f1⟩ : S112)).bind fun t50 => (if t50 = true then (some (Sum.inl false)) else (rec_ (wrap64 (i12 + 1))))) else none) else none) else (some (Sum.inr i12)))
def impl_MergesOk.l0 (l0 : List S112) : Nat → Int → Option (Bool ⊕ Int)
  | 0, _ => none
  | k + 1, i12 => impl_MergesOk.b0 l0 (impl_MergesOk.l0 l0 k) k i12
def impl_MergesOk.g (k : Nat) (l0 : List S112) : Option Bool := (if (l0.length : Int) > 16 then (some false) else ((impl_MergesOk.l0 l0 k 0).bind (fun oc25 => match oc25 with | .inl r_ => some r_ | .inr i12 => ((impl_sizesOf.g k l0).bind fun t17 => (some t17.2)))))
theorem impl_MergesOk.runs (k : Nat) (A0 : Option Addr) (c0 : Nat) (l0 : List S112) (r : Bool) (w : World) (hr0 : k112.C w A0 l0.length l0) (hc0 : l0.length ≤ c0) (H : impl_MergesOk.g k l0 = some r) :
    Calls Try.prog 71 #[.slice A0 l0.length c0] w fun e w' => e = .returned (.bool r) ∧ Below w.heap.size w w' := by
  unfold impl_MergesOk.g at H
  have HS : St (fun _ => True) w w [] [(cF k112 A0 l0)] [] := St.start (foot_cons (foot_C h112 hr0) foot_nil)
  refine cw_ (n := 29) Try.func71 fun R_ hR_ => ?_
  refine sr_ fun _ hK1 => ?_
  refine as_ ?_
  refine dn_ hK1 ?_
  refine WC.seq fun _ hK2 => ?_
  refine sr_ fun _ hK3 => ?_
  refine mv_ ?_
  refine ln_ Try.underlying34 ?_
  refine b_ bin_gtr ?_
  refine dn_ hK3 ?_
  rcases ite_ H with ⟨c4, H⟩ | ⟨c4, H⟩
  · refine wy_ (dT c4) ?_
    refine sr_ fun _ hK5 => ?_
    refine as_ ?_
    refine dn_ hK5 ?_
    obtain rfl := os H
    exact rt1 Try.f71 rfl rfl hR_ ⟨rfl, HS.b⟩
  refine wn_ (dF c4) ?_
  refine WC.skip ?_
  refine via_ hK2 ?_
  refine WC.seq fun K6 hK6 => ?_
  refine sr_ fun _ hK7 => ?_
  refine mv_ ?_
  refine ln_ Try.underlying34 ?_
  refine mv_ ?_
  refine dn_ hK7 ?_
  refine WC.block ?_
  obtain ⟨G8, hG9, oc10, H, Ho11⟩ := open_G H
  let J13 := fun (i12 : Int) (E_ : Env) (W_ : World) => E_ = [(0, .slice A0 l0.length c0), (10, .slice A0 l0.length c0), (11, .int .i64 (l0.length : Int)), (12, .int .i64 i12)] ∧ St (fun _ => True) w W_ [] [(cF k112 A0 l0)] []
  have X14 : ∀ E_ W_, (∃ i12, G8 (Sum.inr i12) = some r ∧ J13 i12 E_ W_) → ∀ a, Fits a 29 E_ → K6 a W_ := by
    rintro E_ w15 ⟨i12, H, rfl, HS⟩
    rw [hG9] at H
    (try dsimp only at H)
    refine hK6 _ _ ?_
    refine sr_ fun _ hK16 => ?_
    refine mv_ ?_
    obtain ⟨t17, ha18, H⟩ := bind_some H
    refine c_ Try.func123 (impl_sizesOf.runs k A0 c0 l0 t17.1 t17.2 _ (HS.getO 0 rfl) hc0 ha18) ?_
    clear ha18
    rintro _ w19 ⟨A20, c21, rfl, le22, hf23, hb⟩
    replace HS := HS.newNs hb (foot_cons hf23 foot_nil)
    refine ⟨_, rfl, ?_⟩
    clear hb
    refine mv_ ?_
    refine v_ (Run.extract rfl rfl rfl) ?_
    refine v_ (Run.extract rfl rfl rfl) ?_
    refine as_ ?_
    refine as_ ?_
    refine dn_ hK16 ?_
    refine sr_ fun _ hK24 => ?_
    refine mv_ ?_
    refine as_ ?_
    refine dn_ hK24 ?_
    obtain rfl := os H
    exact rt1 Try.f71 rfl rfl hR_ ⟨rfl, HS.b⟩
  refine WC.loop (fun k_ E_ W_ => ∃ i12, (∃ o_, impl_MergesOk.l0 l0 k_ i12 = some o_ ∧ G8 o_ = some r) ∧ J13 i12 E_ W_) k ⟨0, ⟨_, H, Ho11⟩, rfl, HS⟩ (sb rfl) ?_
  rintro k_ E_ w26 ⟨i12, ⟨oc10, H, Ho11⟩, rfl, HS⟩
  rcases k_ with _ | k27
  · exact no_ H
  replace H : impl_MergesOk.b0 l0 (impl_MergesOk.l0 l0 k27) k27 i12 = some oc10 := H
  unfold impl_MergesOk.b0 at H
  refine sr_ fun _ hK28 => ?_
  refine b_ bin_lss ?_
  refine dn_ hK28 ?_
  refine WC.seq fun _ hK29 => ?_
  rcases eti_ H with ⟨c30, H⟩ | ⟨c30, H⟩
  · refine wn_ (dF c30) ?_
    refine WC.exit ?_
    obtain rfl := os H
    exact WQ.via2 (fun _ _ h_ => h_) X14 ⟨i12, Ho11, rfl, HS⟩ (sb rfl)
  refine wy_ (dT c30) ?_
  refine WC.skip ?_
  refine via_ hK29 ?_
  refine WC.seq fun _ hK31 => ?_
  refine WC.block ?_
  refine sr_ fun _ hK32 => ?_
  refine mv_ ?_
  obtain ⟨⟨q33, q34⟩, H⟩ := if_some H
  obtain ⟨ad35, rfl⟩ := C_open (HS.getO 0 rfl) (by omega)
  refine v_ (ia_ Try.underlying34 2 q33 q34) ?_
  obtain ⟨e36, el37, HS⟩ := HS.elO 0 rfl (by decide) o112 i12 q33 q34
  refine v_ (Run.loadS (cs := [.int .i64 ((l0.getD i12.toNat o112).f0), .int .i64 ((l0.getD i12.toNat o112).f1)]) rfl rfl Try.underlying112 rfl (by kernel_rfl) (cells_part (HS.getO 0 rfl).2 (part_cons (at112_0 (AtK.whole (HS.getO 0 rfl).1)).int (part_cons (at112_1 (AtK.whole (HS.getO 0 rfl).1)).int part_nil)))) ?_
  refine WL.alloc HS (v := .agg #[.int .i64 0, .int .i64 0]) (cs := #[.int .i64 0, .int .i64 0]) rfl rfl (by decide) rfl (by kernel_rfl) rfl (fun b38 w39 hb38 HS => ?_)
  refine as_ ?_
  refine WL.storeW HS 0 rfl rfl rfl rfl rfl rfl (oneL rfl) (by kernel_rfl) rfl (fun w40 HS => ?_)
  dsimp only [List.set] at HS
  refine dn_ hK32 ?_
  refine WC.seq fun _ hK41 => ?_
  refine WC.drawS HS [] rfl rfl (fun w42 HS => ?_)
  have HB := Below.refl w42.heap.size w42
  have HSW := HS
  refine dm_ 0 ?_
  refine dm_ 1 ?_
  obtain ⟨⟨q43, q44⟩, H⟩ := if_some H
  obtain ⟨A45, c46, he47, le48, hf49⟩ := slc_take k112 (some ad35) c0 l0 i12 q43 q44 hc0
  replace HS := HS.deriveO (p := (cF k112 A45 (l0.take i12.toNat))) (fun W_ hO_ hN_ => hf49 W_ hO_.2.1)
  refine dp_ 2 (fun _ => Run.eqv he47 (Run.slH rfl Try.underlying34 (by kernel_rfl) rfl rfl q43 (Int.le_trans q44 (Int.ofNat_le.mpr hc0)))) ?_
  refine dt_ 3 (Below.refl _ _) (fun w_ hw_ => Run.loadS (cs := [.int .i64 ((l0.getD i12.toNat o112).f0), .int .i64 ((l0.getD i12.toNat o112).f1)]) rfl rfl Try.underlying112 rfl (by kernel_rfl) (box_part ((HS.below hw_).mu 0 rfl) part_all)) ?_
  obtain ⟨t50, ha51, H⟩ := bind_some H
  refine dcs_ HS HB 4 (w_none rfl) Try.func122 (slices_Contains_impl_Merge_impl_Merge.runs k27 A45 c46 (l0.take i12.toNat) (⟨(l0.getD i12.toNat o112).f0, (l0.getD i12.toNat o112).f1⟩ : S112) t50 _ (HS.getO 0 rfl) le48 ha51) (fun w52 HS HB => ?_)
  clear ha51
  refine dd_ ?_
  clear HB HSW
  refine via_ hK41 ?_
  rcases eti_ H with ⟨c53, H⟩ | ⟨c53, H⟩
  · refine wn_ (bF c53) ?_
    refine WC.skip ?_
    refine via_ hK31 ?_
    refine rg_ ?_
    refine b_ bin_add64 ?_
    refine mv_ ?_
    refine WL.done ?_
    exact WQ.round k27 (fun _ _ h_ => h_) (Nat.lt_succ_self _) ⟨(wrap64 (i12 + 1)), ⟨_, H, Ho11⟩, rfl, (St.pk (St.forget HS 0 rfl) [2] [] rfl rfl)⟩ (sb rfl)
  refine wy_ c53 ?_
  refine sr_ fun _ hK54 => ?_
  refine as_ ?_
  refine dn_ hK54 ?_
  refine WC.ret ?_
  obtain rfl := os H
  rw [hG9] at Ho11
  replace H : some _ = some _ := Ho11
  obtain rfl := os H
  exact fin1 Try.f71 rfl rfl hR_ ⟨rfl, HS.b⟩
def impl_ModelOk_1.g (k : Nat) (l0 : List Int) (x1 : S39) : Option Bool := (if (l0.length : Int) = x1.f0 then ((impl_allIn.f l0 (-127) 127).bind fun t4 => (some (!t4))) else (some true))
theorem impl_ModelOk_1.runs (k : Nat) (A0 : Option Addr) (c0 : Nat) (l0 : List Int) (b1 : Nat) (cs1 : List Value) (x1 : S39) (r : Bool) (w : World) (hr0 : kI.C w A0 l0.length l0) (hc0 : l0.length ≤ c0) (hk1 : k39.K w x1 cs1) (hb1 : w.heap[b1]? = some (.cells cs1.toArray 39 (0, 0))) (H : impl_ModelOk_1.g k l0 x1 = some r) :
    Calls Try.prog 73 #[.slice A0 l0.length c0, .pointer (some ⟨b1, 0, none⟩)] w fun e w' => e = .returned (.bool r) ∧ Below w.heap.size w w' := by
  have el1 : cs1.length = 14 := k39.K_len hk1
  unfold impl_ModelOk_1.g at H
  have HS : St (fun _ => True) w w [] [(cF kI A0 l0), (kF k39 x1 cs1), (fun W => W.heap[b1]? = some (.cells cs1.toArray 39 (0, 0)))] [] := St.start (foot_cons (foot_C (Kd.heap_int _) hr0) (foot_cons (foot_K h39 hk1) (foot_cons (foot_rob hb1) foot_nil)))
  refine cw_ (n := 14) Try.func73 fun R_ hR_ => ?_
  refine sr_ fun _ hK1 => ?_
  refine as_ ?_
  refine dn_ hK1 ?_
  refine sr_ fun _ hK2 => ?_
  refine mv_ ?_
  refine ln_ Try.underlying25 ?_
  refine v_ (fa_ Try.underlying39) ?_
  refine v_ (lb_ (HS.getO 2 rfl) Try.underlying3 (at39_0 (HS.aO 1 rfl)).int) ?_
  refine b_ bin_neq ?_
  refine mv_ ?_
  rcases eti_ H with ⟨c3, H⟩ | ⟨c3, H⟩
  · refine off_ (c' := true) (qT c3) ?_
    refine WL.know 9 (qT c3) ?_
    refine fast_ ?_
    refine via_ hK2 ?_
    obtain rfl := os H
    exact rt1 Try.f73 rfl rfl hR_ ⟨rfl, HS.b⟩
  refine on_ (qF c3) ?_
  refine mv_ ?_
  refine on_ (qF c3) ?_
  obtain ⟨t4, ha5, H⟩ := bind_some H
  refine cs_ HS Try.func74 (impl_allIn.calls A0 c0 l0 (-127) 127 t4 _ (HS.getO 0 rfl) hc0 ha5) (fun w6 HS => ?_)
  clear ha5
  refine on_ (qF c3) ?_
  refine nt_ ?_
  refine v_ (Run.pickF rfl rfl (qF c3) rfl) ?_
  refine as_ ?_
  refine dn_ hK2 ?_
  obtain rfl := os H
  exact rt1 Try.f73 rfl rfl hR_ ⟨rfl, HS.b⟩
def slices_IndexFunc_int_int_73.b0 (l0 : List (List Int)) (x1c0 : S39) (rec_ : Int → Option (Int ⊕ Int)) (k15 : Nat) (i8 : Int) : Option (Int ⊕ Int) := (if i8 < (l0.length : Int) then (if 0 ≤ i8 ∧ i8 < (l0.length : Int) then ((impl_ModelOk_1.g k15 (l0.getD i8.toNat []) x1c0).bind fun t28 => (if t28 = true then (some (Sum.inl i8)) else (rec_ (wrap64 (i8 + 1))))) else none) else (some (Sum.inr i8)))
def slices_IndexFunc_int_int_73.l0 (l0 : List (List Int)) (x1c0 : S39) : Nat → Int → Option (Int ⊕ Int)
  | 0, _ => none
  | k + 1, i8 => slices_IndexFunc_int_int_73.b0 l0 x1c0 (slices_IndexFunc_int_int_73.l0 l0 x1c0 k) k i8
def slices_IndexFunc_int_int_73.g (k : Nat) (l0 : List (List Int)) (x1c0 : S39) : Option Int := ((slices_IndexFunc_int_int_73.l0 l0 x1c0 k 0).bind (fun oc13 => match oc13 with | .inl r_ => some r_ | .inr i8 => (some (-1))))
theorem slices_IndexFunc_int_int_73.runs (k : Nat) (A0 : Option Addr) (c0 : Nat) (l0 : List (List Int)) (b1c0 : Nat) (cs1c0 : List Value) (x1c0 : S39) (r : Int) (w : World) (hr0 : kS3.C w A0 l0.length l0) (hc0 : l0.length ≤ c0) (hk1c0 : k39.K w x1c0 cs1c0) (hb1c0 : w.heap[b1c0]? = some (.cells cs1c0.toArray 39 (0, 0))) (H : slices_IndexFunc_int_int_73.g k l0 x1c0 = some r) :
    Calls Try.prog 124 #[.slice A0 l0.length c0, .func (.func 73) #[] #[.pointer (some ⟨b1c0, 0, none⟩)]] w fun e w' => e = .returned (.int .i64 r) ∧ Below w.heap.size w w' := by
  have el1c0 : cs1c0.length = 14 := k39.K_len hk1c0
  unfold slices_IndexFunc_int_int_73.g at H
  have HS : St (fun _ => True) w w [] [(cF kS3 A0 l0), (kF k39 x1c0 cs1c0), (fun W => W.heap[b1c0]? = some (.cells cs1c0.toArray 39 (0, 0)))] [] := St.start (foot_cons (foot_C (Kd.heap_slice _ (Kd.heap_int _)) hr0) (foot_cons (foot_K h39 hk1c0) (foot_cons (foot_rob hb1c0) foot_nil)))
  refine cw_ (n := 19) Try.func124 fun R_ hR_ => ?_
  refine sr_ fun _ hK1 => ?_
  refine as_ ?_
  refine dn_ hK1 ?_
  refine WC.seq fun K2 hK2 => ?_
  refine sr_ fun _ hK3 => ?_
  refine mv_ ?_
  refine ln_ Try.underlying23 ?_
  refine mv_ ?_
  refine dn_ hK3 ?_
  refine WC.block ?_
  obtain ⟨G4, hG5, oc6, H, Ho7⟩ := open_G H
  let J9 := fun (i8 : Int) (E_ : Env) (W_ : World) => E_ = [(0, .slice A0 l0.length c0), (1, .func (.func 73) #[] #[.pointer (some ⟨b1c0, 0, none⟩)]), (7, .int .i64 (l0.length : Int)), (8, .int .i64 i8)] ∧ St (fun _ => True) w W_ [] [(cF kS3 A0 l0), (kF k39 x1c0 cs1c0), (fun W => W.heap[b1c0]? = some (.cells cs1c0.toArray 39 (0, 0)))] []
  have X10 : ∀ E_ W_, (∃ i8, G4 (Sum.inr i8) = some r ∧ J9 i8 E_ W_) → ∀ a, Fits a 19 E_ → K2 a W_ := by
    rintro E_ w11 ⟨i8, H, rfl, HS⟩
    rw [hG5] at H
    (try dsimp only at H)
    refine hK2 _ _ ?_
    refine sr_ fun _ hK12 => ?_
    refine as_ ?_
    refine dn_ hK12 ?_
    obtain rfl := os H
    exact rt1 Try.f124 rfl rfl hR_ ⟨rfl, HS.b⟩
  refine WC.loop (fun k_ E_ W_ => ∃ i8, (∃ o_, slices_IndexFunc_int_int_73.l0 l0 x1c0 k_ i8 = some o_ ∧ G4 o_ = some r) ∧ J9 i8 E_ W_) k ⟨0, ⟨_, H, Ho7⟩, rfl, HS⟩ (sb rfl) ?_
  rintro k_ E_ w14 ⟨i8, ⟨oc6, H, Ho7⟩, rfl, HS⟩
  rcases k_ with _ | k15
  · exact no_ H
  replace H : slices_IndexFunc_int_int_73.b0 l0 x1c0 (slices_IndexFunc_int_int_73.l0 l0 x1c0 k15) k15 i8 = some oc6 := H
  unfold slices_IndexFunc_int_int_73.b0 at H
  refine sr_ fun _ hK16 => ?_
  refine b_ bin_lss ?_
  refine dn_ hK16 ?_
  refine WC.seq fun _ hK17 => ?_
  rcases eti_ H with ⟨c18, H⟩ | ⟨c18, H⟩
  · refine wn_ (dF c18) ?_
    refine WC.exit ?_
    obtain rfl := os H
    exact WQ.via2 (fun _ _ h_ => h_) X10 ⟨i8, Ho7, rfl, HS⟩ (sb rfl)
  refine wy_ (dT c18) ?_
  refine WC.skip ?_
  refine via_ hK17 ?_
  refine WC.seq fun _ hK19 => ?_
  refine WC.block ?_
  refine sr_ fun _ hK20 => ?_
  refine mv_ ?_
  refine as_ ?_
  refine dn_ hK20 ?_
  refine sr_ fun _ hK21 => ?_
  refine mv_ ?_
  refine mv_ ?_
  refine mv_ ?_
  obtain ⟨⟨q22, q23⟩, H⟩ := if_some H
  obtain ⟨ad24, rfl⟩ := C_open (HS.getO 0 rfl) (by omega)
  refine v_ (ia_ Try.underlying23 1 q22 q23) ?_
  obtain ⟨A25, c26, le27, HS⟩ := HS.slO 0 rfl i8 q22 q23
  refine v_ (Run.load rfl rfl Try.underlying25 rfl (HS.getO 1 rfl)) ?_
  obtain ⟨t28, ha29, H⟩ := bind_some H
  refine cv_ (args := [.slice A25 ((l0.getD i8.toNat []).length) c26]) (cap := [.pointer (some ⟨b1c0, 0, none⟩)]) Try.func73 (impl_ModelOk_1.runs k15 A25 c26 (l0.getD i8.toNat []) b1c0 cs1c0 x1c0 t28 _ (HS.getO 0 rfl) le27 (HS.getO 3 rfl) (HS.getO 4 rfl) ha29) ?_
  clear ha29
  rintro _ w30 ⟨rfl, hb⟩
  replace HS := HS.below hb
  refine ⟨_, rfl, ?_⟩
  clear hb
  refine dn_ hK21 ?_
  rcases eti_ H with ⟨c31, H⟩ | ⟨c31, H⟩
  · refine wn_ (bF c31) ?_
    refine WC.skip ?_
    refine via_ hK19 ?_
    refine rg_ ?_
    refine b_ bin_add64 ?_
    refine mv_ ?_
    refine WL.done ?_
    exact WQ.round k15 (fun _ _ h_ => h_) (Nat.lt_succ_self _) ⟨(wrap64 (i8 + 1)), ⟨_, H, Ho7⟩, rfl, (St.pk HS [2, 3, 4] [] rfl rfl)⟩ (sb rfl)
  refine wy_ c31 ?_
  refine sr_ fun _ hK32 => ?_
  refine mv_ ?_
  refine as_ ?_
  refine dn_ hK32 ?_
  refine WC.ret ?_
  obtain rfl := os H
  rw [hG5] at Ho7
  replace H : some _ = some _ := Ho7
  obtain rfl := os H
  exact fin1 Try.f124 rfl rfl hR_ ⟨rfl, HS.b⟩
def slices_ContainsFunc_int_int_73.g (k : Nat) (l0 : List (List Int)) (x1c0 : S39) : Option Bool := ((slices_IndexFunc_int_int_73.g k l0 x1c0).bind fun t3 => (some (decide (t3 ≥ 0))))
theorem slices_ContainsFunc_int_int_73.runs (k : Nat) (A0 : Option Addr) (c0 : Nat) (l0 : List (List Int)) (b1c0 : Nat) (cs1c0 : List Value) (x1c0 : S39) (r : Bool) (w : World) (hr0 : kS3.C w A0 l0.length l0) (hc0 : l0.length ≤ c0) (hk1c0 : k39.K w x1c0 cs1c0) (hb1c0 : w.heap[b1c0]? = some (.cells cs1c0.toArray 39 (0, 0))) (H : slices_ContainsFunc_int_int_73.g k l0 x1c0 = some r) :
    Calls Try.prog 72 #[.slice A0 l0.length c0, .func (.func 73) #[] #[.pointer (some ⟨b1c0, 0, none⟩)]] w fun e w' => e = .returned (.bool r) ∧ Below w.heap.size w w' := by
  have el1c0 : cs1c0.length = 14 := k39.K_len hk1c0
  unfold slices_ContainsFunc_int_int_73.g at H
  have HS : St (fun _ => True) w w [] [(cF kS3 A0 l0), (kF k39 x1c0 cs1c0), (fun W => W.heap[b1c0]? = some (.cells cs1c0.toArray 39 (0, 0)))] [] := St.start (foot_cons (foot_C (Kd.heap_slice _ (Kd.heap_int _)) hr0) (foot_cons (foot_K h39 hk1c0) (foot_cons (foot_rob hb1c0) foot_nil)))
  refine cw_ (n := 9) Try.func72 fun R_ hR_ => ?_
  refine sr_ fun _ hK1 => ?_
  refine as_ ?_
  refine dn_ hK1 ?_
  refine sr_ fun _ hK2 => ?_
  refine mv_ ?_
  refine mv_ ?_
  obtain ⟨t3, ha4, H⟩ := bind_some H
  refine cs_ HS Try.func124 (slices_IndexFunc_int_int_73.runs k A0 c0 l0 b1c0 cs1c0 x1c0 t3 _ (HS.getO 0 rfl) hc0 (HS.getO 1 rfl) (HS.getO 2 rfl) ha4) (fun w5 HS => ?_)
  clear ha4
  refine b_ bin_geq ?_
  refine as_ ?_
  refine dn_ hK2 ?_
  obtain rfl := os H
  exact rt1 Try.f72 rfl rfl hR_ ⟨rfl, HS.b⟩
def impl_ModelOk_2.g (k : Nat) (x0 : S48) (x1 : S39) : Option Bool := ((impl_LayerOk.g k x0 x1.f0).bind fun t5 => (some (!t5)))
theorem impl_ModelOk_2.runs (k : Nat) (cs0 : List Value) (x0 : S48) (b1 : Nat) (cs1 : List Value) (x1 : S39) (r : Bool) (w : World) (hk0 : k48.K w x0 cs0) (hk1 : k39.K w x1 cs1) (hb1 : w.heap[b1]? = some (.cells cs1.toArray 39 (0, 0))) (H : impl_ModelOk_2.g k x0 x1 = some r) :
    Calls Try.prog 76 #[.agg cs0.toArray, .pointer (some ⟨b1, 0, none⟩)] w fun e w' => e = .returned (.bool r) ∧ Below w.heap.size w w' := by
  have el0 : cs0.length = 32 := k48.K_len hk0
  have el1 : cs1.length = 14 := k39.K_len hk1
  unfold impl_ModelOk_2.g at H
  have HS : St (fun _ => True) w w [] [(kF k48 x0 cs0), (kF k39 x1 cs1), (fun W => W.heap[b1]? = some (.cells cs1.toArray 39 (0, 0)))] [] := St.start (foot_cons (foot_K h48 hk0) (foot_cons (foot_K h39 hk1) (foot_cons (foot_rob hb1) foot_nil)))
  refine cw_ (n := 9) Try.func76 fun R_ hR_ => ?_
  refine sr_ fun _ hK1 => ?_
  refine bo_ HS (fun b2 w3 hb2 HS => ?_)
  refine as_ ?_
  refine dn_ hK1 ?_
  refine sr_ fun _ hK4 => ?_
  refine v_ (Run.loadS (cs := cs0) rfl rfl Try.underlying48 rfl (by rw [el0]; kernel_rfl) (box_part (HS.mu 0 rfl) part_all)) ?_
  refine v_ (fa_ Try.underlying39) ?_
  refine v_ (lb_ (HS.getO 2 rfl) Try.underlying3 (at39_0 (HS.aO 1 rfl)).int) ?_
  obtain ⟨t5, ha6, H⟩ := bind_some H
  refine cs_ HS Try.func22 (impl_LayerOk.runs k cs0 x0 x1.f0 t5 _ (HS.getO 0 rfl) ha6) (fun w7 HS => ?_)
  clear ha6
  refine nt_ ?_
  refine as_ ?_
  refine dn_ hK4 ?_
  obtain rfl := os H
  exact rt1 Try.f76 rfl rfl hR_ ⟨rfl, HS.b⟩
def slices_IndexFunc_impl_Layer_impl_Layer_76.b0 (l0 : List S48) (x1c0 : S39) (rec_ : Int → Option (Int ⊕ Int)) (k15 : Nat) (i8 : Int) : Option (Int ⊕ Int) := (if i8 < (l0.length : Int) then (if 0 ≤ i8 ∧ i8 < (l0.length : Int) then ((impl_ModelOk_2.g k15 (l0.getD i8.toNat o48) x1c0).bind fun t27 => (if t27 = true then (some (Sum.inl i8)) else (rec_ (wrap64 (i8 + 1))))) else none) else (some (Sum.inr i8)))
def slices_IndexFunc_impl_Layer_impl_Layer_76.l0 (l0 : List S48) (x1c0 : S39) : Nat → Int → Option (Int ⊕ Int)
  | 0, _ => none
  | k + 1, i8 => slices_IndexFunc_impl_Layer_impl_Layer_76.b0 l0 x1c0 (slices_IndexFunc_impl_Layer_impl_Layer_76.l0 l0 x1c0 k) k i8
def slices_IndexFunc_impl_Layer_impl_Layer_76.g (k : Nat) (l0 : List S48) (x1c0 : S39) : Option Int := ((slices_IndexFunc_impl_Layer_impl_Layer_76.l0 l0 x1c0 k 0).bind (fun oc13 => match oc13 with | .inl r_ => some r_ | .inr i8 => (some (-1))))
theorem slices_IndexFunc_impl_Layer_impl_Layer_76.runs (k : Nat) (A0 : Option Addr) (c0 : Nat) (l0 : List S48) (b1c0 : Nat) (cs1c0 : List Value) (x1c0 : S39) (r : Int) (w : World) (hr0 : k48.C w A0 l0.length l0) (hc0 : l0.length ≤ c0) (hk1c0 : k39.K w x1c0 cs1c0) (hb1c0 : w.heap[b1c0]? = some (.cells cs1c0.toArray 39 (0, 0))) (H : slices_IndexFunc_impl_Layer_impl_Layer_76.g k l0 x1c0 = some r) :
    Calls Try.prog 127 #[.slice A0 l0.length c0, .func (.func 76) #[] #[.pointer (some ⟨b1c0, 0, none⟩)]] w fun e w' => e = .returned (.int .i64 r) ∧ Below w.heap.size w w' := by
  have el1c0 : cs1c0.length = 14 := k39.K_len hk1c0
  unfold slices_IndexFunc_impl_Layer_impl_Layer_76.g at H
  have HS : St (fun _ => True) w w [] [(cF k48 A0 l0), (kF k39 x1c0 cs1c0), (fun W => W.heap[b1c0]? = some (.cells cs1c0.toArray 39 (0, 0)))] [] := St.start (foot_cons (foot_C h48 hr0) (foot_cons (foot_K h39 hk1c0) (foot_cons (foot_rob hb1c0) foot_nil)))
  refine cw_ (n := 19) Try.func127 fun R_ hR_ => ?_
  refine sr_ fun _ hK1 => ?_
  refine as_ ?_
  refine dn_ hK1 ?_
  refine WC.seq fun K2 hK2 => ?_
  refine sr_ fun _ hK3 => ?_
  refine mv_ ?_
  refine ln_ Try.underlying35 ?_
  refine mv_ ?_
  refine dn_ hK3 ?_
  refine WC.block ?_
  obtain ⟨G4, hG5, oc6, H, Ho7⟩ := open_G H
  let J9 := fun (i8 : Int) (E_ : Env) (W_ : World) => E_ = [(0, .slice A0 l0.length c0), (1, .func (.func 76) #[] #[.pointer (some ⟨b1c0, 0, none⟩)]), (7, .int .i64 (l0.length : Int)), (8, .int .i64 i8)] ∧ St (fun _ => True) w W_ [] [(cF k48 A0 l0), (kF k39 x1c0 cs1c0), (fun W => W.heap[b1c0]? = some (.cells cs1c0.toArray 39 (0, 0)))] []
  have X10 : ∀ E_ W_, (∃ i8, G4 (Sum.inr i8) = some r ∧ J9 i8 E_ W_) → ∀ a, Fits a 19 E_ → K2 a W_ := by
    rintro E_ w11 ⟨i8, H, rfl, HS⟩
    rw [hG5] at H
    (try dsimp only at H)
    refine hK2 _ _ ?_
    refine sr_ fun _ hK12 => ?_
    refine as_ ?_
    refine dn_ hK12 ?_
    obtain rfl := os H
    exact rt1 Try.f127 rfl rfl hR_ ⟨rfl, HS.b⟩
  refine WC.loop (fun k_ E_ W_ => ∃ i8, (∃ o_, slices_IndexFunc_impl_Layer_impl_Layer_76.l0 l0 x1c0 k_ i8 = some o_ ∧ G4 o_ = some r) ∧ J9 i8 E_ W_) k ⟨0, ⟨_, H, Ho7⟩, rfl, HS⟩ (sb rfl) ?_
  rintro k_ E_ w14 ⟨i8, ⟨oc6, H, Ho7⟩, rfl, HS⟩
  rcases k_ with _ | k15
  · exact no_ H
  replace H : slices_IndexFunc_impl_Layer_impl_Layer_76.b0 l0 x1c0 (slices_IndexFunc_impl_Layer_impl_Layer_76.l0 l0 x1c0 k15) k15 i8 = some oc6 := H
  unfold slices_IndexFunc_impl_Layer_impl_Layer_76.b0 at H
  refine sr_ fun _ hK16 => ?_
  refine b_ bin_lss ?_
  refine dn_ hK16 ?_
  refine WC.seq fun _ hK17 => ?_
  rcases eti_ H with ⟨c18, H⟩ | ⟨c18, H⟩
  · refine wn_ (dF c18) ?_
    refine WC.exit ?_
    obtain rfl := os H
    exact WQ.via2 (fun _ _ h_ => h_) X10 ⟨i8, Ho7, rfl, HS⟩ (sb rfl)
  refine wy_ (dT c18) ?_
  refine WC.skip ?_
  refine via_ hK17 ?_
  refine WC.seq fun _ hK19 => ?_
  refine WC.block ?_
  refine sr_ fun _ hK20 => ?_
  refine mv_ ?_
  refine as_ ?_
  refine dn_ hK20 ?_
  refine sr_ fun _ hK21 => ?_
  refine mv_ ?_
  refine mv_ ?_
  refine mv_ ?_
  obtain ⟨⟨q22, q23⟩, H⟩ := if_some H
  obtain ⟨ad24, rfl⟩ := C_open (HS.getO 0 rfl) (by omega)
  refine v_ (ia_ Try.underlying35 32 q22 q23) ?_
  obtain ⟨e25, el26, HS⟩ := HS.elO 0 rfl (by decide) o48 i8 q22 q23
  replace HS := HS.deriveO (p := (kF k48 (l0.getD i8.toNat o48) e25)) (fun W_ hO_ hN_ => hO_.1.1)
  refine v_ (Run.loadS (cs := e25) rfl rfl Try.underlying48 rfl (by rw [el26]; kernel_rfl) (HS.getO 1 rfl).2) ?_
  obtain ⟨t27, ha28, H⟩ := bind_some H
  refine cv_ (args := [.agg e25.toArray]) (cap := [.pointer (some ⟨b1c0, 0, none⟩)]) Try.func76 (impl_ModelOk_2.runs k15 e25 (l0.getD i8.toNat o48) b1c0 cs1c0 x1c0 t27 _ (HS.getO 0 rfl) (HS.getO 3 rfl) (HS.getO 4 rfl) ha28) ?_
  clear ha28
  rintro _ w29 ⟨rfl, hb⟩
  replace HS := HS.below hb
  refine ⟨_, rfl, ?_⟩
  clear hb
  refine dn_ hK21 ?_
  rcases eti_ H with ⟨c30, H⟩ | ⟨c30, H⟩
  · refine wn_ (bF c30) ?_
    refine WC.skip ?_
    refine via_ hK19 ?_
    refine rg_ ?_
    refine b_ bin_add64 ?_
    refine mv_ ?_
    refine WL.done ?_
    exact WQ.round k15 (fun _ _ h_ => h_) (Nat.lt_succ_self _) ⟨(wrap64 (i8 + 1)), ⟨_, H, Ho7⟩, rfl, (St.pk HS [2, 3, 4] [] rfl rfl)⟩ (sb rfl)
  refine wy_ c30 ?_
  refine sr_ fun _ hK31 => ?_
  refine mv_ ?_
  refine as_ ?_
  refine dn_ hK31 ?_
  refine WC.ret ?_
  obtain rfl := os H
  rw [hG5] at Ho7
  replace H : some _ = some _ := Ho7
  obtain rfl := os H
  exact fin1 Try.f127 rfl rfl hR_ ⟨rfl, HS.b⟩
def slices_ContainsFunc_impl_Layer_impl_Layer_76.g (k : Nat) (l0 : List S48) (x1c0 : S39) : Option Bool := ((slices_IndexFunc_impl_Layer_impl_Layer_76.g k l0 x1c0).bind fun t3 => (some (decide (t3 ≥ 0))))
theorem slices_ContainsFunc_impl_Layer_impl_Layer_76.runs (k : Nat) (A0 : Option Addr) (c0 : Nat) (l0 : List S48) (b1c0 : Nat) (cs1c0 : List Value) (x1c0 : S39) (r : Bool) (w : World) (hr0 : k48.C w A0 l0.length l0) (hc0 : l0.length ≤ c0) (hk1c0 : k39.K w x1c0 cs1c0) (hb1c0 : w.heap[b1c0]? = some (.cells cs1c0.toArray 39 (0, 0))) (H : slices_ContainsFunc_impl_Layer_impl_Layer_76.g k l0 x1c0 = some r) :
    Calls Try.prog 75 #[.slice A0 l0.length c0, .func (.func 76) #[] #[.pointer (some ⟨b1c0, 0, none⟩)]] w fun e w' => e = .returned (.bool r) ∧ Below w.heap.size w w' := by
  have el1c0 : cs1c0.length = 14 := k39.K_len hk1c0
  unfold slices_ContainsFunc_impl_Layer_impl_Layer_76.g at H
  have HS : St (fun _ => True) w w [] [(cF k48 A0 l0), (kF k39 x1c0 cs1c0), (fun W => W.heap[b1c0]? = some (.cells cs1c0.toArray 39 (0, 0)))] [] := St.start (foot_cons (foot_C h48 hr0) (foot_cons (foot_K h39 hk1c0) (foot_cons (foot_rob hb1c0) foot_nil)))
  refine cw_ (n := 9) Try.func75 fun R_ hR_ => ?_
  refine sr_ fun _ hK1 => ?_
  refine as_ ?_
  refine dn_ hK1 ?_
  refine sr_ fun _ hK2 => ?_
  refine mv_ ?_
  refine mv_ ?_
  obtain ⟨t3, ha4, H⟩ := bind_some H
  refine cs_ HS Try.func127 (slices_IndexFunc_impl_Layer_impl_Layer_76.runs k A0 c0 l0 b1c0 cs1c0 x1c0 t3 _ (HS.getO 0 rfl) hc0 (HS.getO 1 rfl) (HS.getO 2 rfl) ha4) (fun w5 HS => ?_)
  clear ha4
  refine b_ bin_geq ?_
  refine as_ ?_
  refine dn_ hK2 ?_
  obtain rfl := os H
  exact rt1 Try.f75 rfl rfl hR_ ⟨rfl, HS.b⟩
def impl_ModelOk.g (k : Nat) (x0 : S39) : Option Bool := ((impl_isWidth.f x0.f0).bind fun t7 => (if t7 = true then ((impl_in.f x0.f1 1 2).bind fun t11 => (if t11 = true then ((impl_MergesOk.g k x0.f3).bind fun t19 => (if t19 = true then ((impl_Vocab.g k x0).bind fun t27 => (if (x0.f4.length : Int) = t27 then ((impl_in.f (x0.f5.length : Int) 1 2).bind fun t35 => (if t35 = true then ((slices_ContainsFunc_int_int_73.g k x0.f4 x0).bind fun t41 => (if t41 = true then (some false) else ((slices_ContainsFunc_impl_Layer_impl_Layer_76.g k x0.f5 x0).bind fun t48 => (if t48 = true then (some false) else ((impl_GainOk.g k x0.f6 x0.f0).bind fun t59 => (if t59 = true then ((impl_Vocab.g k x0).bind fun t71 => ((impl_withinBudget.g k x0.f7 x0.f0 t71).bind fun t74 => (if t74 = true then (if x0.f1 ≠ 0 then ((impl_TurnsOk.g k x0.f8 x0.f2 (wrap64 (Int.tdiv (wrap64 (Int.tdiv x0.f0 x0.f1)) 2))).bind fun t87 => (some t87)) else none) else (some false)))) else (some false))))))) else (some false))) else (some false))) else (some false))) else (some false))) else (some false)))
theorem impl_ModelOk.runs (k : Nat) (cs0 : List Value) (x0 : S39) (r : Bool) (w : World) (hk0 : k39.K w x0 cs0) (H : impl_ModelOk.g k x0 = some r) :
    Calls Try.prog 25 #[.agg cs0.toArray] w fun e w' => e = .returned (.bool r) ∧ Below w.heap.size w w' := by
  have el0 : cs0.length = 14 := k39.K_len hk0
  unfold impl_ModelOk.g at H
  have HS : St (fun _ => True) w w [] [(kF k39 x0 cs0)] [] := St.start (foot_cons (foot_K h39 hk0) foot_nil)
  refine cw_ (n := 69) Try.func25 fun R_ hR_ => ?_
  refine sr_ fun _ hK1 => ?_
  refine bo_ HS (fun b2 w3 hb2 HS => ?_)
  refine as_ ?_
  refine dn_ hK1 ?_
  refine WC.seq fun _ hK4 => ?_
  refine WC.seq fun _ hK5 => ?_
  refine WC.drawS HS [] rfl rfl (fun w6 HS => ?_)
  have HB := Below.refl w6.heap.size w6
  have HSW := HS
  refine df_ 0 Try.underlying39 ?_
  refine bl_ 1 HS (Below.refl _ _) 0 Try.underlying3 (at39_0 (HS.aO 0 rfl)).int ?_
  obtain ⟨t7, ha8, H⟩ := bind_some H
  refine dcs0_ HS HB 2 (w_none rfl) Try.func64 (impl_isWidth.calls x0.f0 t7 _ ha8) (fun w9 HS HB => ?_)
  clear ha8
  refine dp_ 3 (fun _ => Run.not rfl rfl) ?_
  refine dm_ 4 ?_
  rcases eti_ H with ⟨c10, H⟩ | ⟨c10, H⟩
  · refine doT_ 5 (nB (bF c10)) ?_
    refine doT_ 6 (nB (bF c10)) ?_
    refine doT_ 7 (nB (bF c10)) ?_
    refine doT_ 8 (nB (bF c10)) ?_
    refine dp_ 9 (fun _ => Run.pickT rfl rfl (nB (bF c10)) rfl) ?_
    refine dm_ 10 ?_
    refine doT_ 11 rfl ?_
    refine doT_ 12 rfl ?_
    refine doT_ 13 rfl ?_
    refine doT_ 14 rfl ?_
    refine dp_ 15 (fun _ => Run.pickT rfl rfl rfl rfl) ?_
    refine dm_ 16 ?_
    refine doT_ 17 rfl ?_
    refine doT_ 18 rfl ?_
    refine doT_ 19 rfl ?_
    refine doT_ 20 rfl ?_
    refine doT_ 21 rfl ?_
    refine doT_ 22 rfl ?_
    refine dp_ 23 (fun _ => Run.pickT rfl rfl rfl rfl) ?_
    refine dm_ 24 ?_
    refine doT_ 25 rfl ?_
    refine doT_ 26 rfl ?_
    refine doT_ 27 rfl ?_
    refine doT_ 28 rfl ?_
    refine doT_ 29 rfl ?_
    refine dp_ 30 (fun _ => Run.pickT rfl rfl rfl rfl) ?_
    refine dd_ ?_
    clear HB HSW
    refine via_ hK5 ?_
    refine wy_ rfl ?_
    refine sr_ fun _ hK94 => ?_
    refine as_ ?_
    refine dn_ hK94 ?_
    obtain rfl := os H
    exact rt1 Try.f25 rfl rfl hR_ ⟨rfl, HS.b⟩
  refine dfg_ 5 (nB c10) Try.underlying39 ?_
  refine blg_ 6 (nB c10) HSW HB 0 Try.underlying3 (at39_1 (HSW.aO 0 rfl)).int ?_
  obtain ⟨t11, ha12, H⟩ := bind_some H
  refine dcs0_ HS HB 7 (w_on rfl rfl rfl (nB c10)) Try.func70 (impl_in.calls x0.f1 1 2 t11 _ ha12) (fun w13 HS HB => ?_)
  clear ha12
  refine dg_ 8 (nB c10) (fun _ => Run.not rfl rfl) ?_
  refine dp_ 9 (fun _ => Run.pickF rfl rfl (nB c10) rfl) ?_
  refine dm_ 10 ?_
  rcases eti_ H with ⟨c14, H⟩ | ⟨c14, H⟩
  · refine doT_ 11 (nB (bF c14)) ?_
    refine doT_ 12 (nB (bF c14)) ?_
    refine doT_ 13 (nB (bF c14)) ?_
    refine doT_ 14 (nB (bF c14)) ?_
    refine dp_ 15 (fun _ => Run.pickT rfl rfl (nB (bF c14)) rfl) ?_
    refine dm_ 16 ?_
    refine doT_ 17 rfl ?_
    refine doT_ 18 rfl ?_
    refine doT_ 19 rfl ?_
    refine doT_ 20 rfl ?_
    refine doT_ 21 rfl ?_
    refine doT_ 22 rfl ?_
    refine dp_ 23 (fun _ => Run.pickT rfl rfl rfl rfl) ?_
    refine dm_ 24 ?_
    refine doT_ 25 rfl ?_
    refine doT_ 26 rfl ?_
    refine doT_ 27 rfl ?_
    refine doT_ 28 rfl ?_
    refine doT_ 29 rfl ?_
    refine dp_ 30 (fun _ => Run.pickT rfl rfl rfl rfl) ?_
    refine dd_ ?_
    clear HB HSW
    refine via_ hK5 ?_
    refine wy_ rfl ?_
    refine sr_ fun _ hK93 => ?_
    refine as_ ?_
    refine dn_ hK93 ?_
    obtain rfl := os H
    exact rt1 Try.f25 rfl rfl hR_ ⟨rfl, HS.b⟩
  refine dfg_ 11 (nB c14) Try.underlying39 ?_
  obtain ⟨A15, c16, hc17, le18, HS⟩ := HS.sO 0 rfl at39_3
  refine blg_ 12 (nB c14) HSW HB 0 Try.underlying34 hc17 ?_
  obtain ⟨t19, ha20, H⟩ := bind_some H
  refine dcs_ HS HB 13 (w_on rfl rfl rfl (nB c14)) Try.func71 (impl_MergesOk.runs k A15 c16 x0.f3 t19 _ (HS.getO 0 rfl) le18 ha20) (fun w21 HS HB => ?_)
  clear ha20
  refine dg_ 14 (nB c14) (fun _ => Run.not rfl rfl) ?_
  refine dp_ 15 (fun _ => Run.pickF rfl rfl (nB c14) rfl) ?_
  refine dm_ 16 ?_
  rcases eti_ H with ⟨c22, H⟩ | ⟨c22, H⟩
  · refine doT_ 17 (nB (bF c22)) ?_
    refine doT_ 18 (nB (bF c22)) ?_
    refine doT_ 19 (nB (bF c22)) ?_
    refine doT_ 20 (nB (bF c22)) ?_
    refine doT_ 21 (nB (bF c22)) ?_
    refine doT_ 22 (nB (bF c22)) ?_
    refine dp_ 23 (fun _ => Run.pickT rfl rfl (nB (bF c22)) rfl) ?_
    refine dm_ 24 ?_
    refine doT_ 25 rfl ?_
    refine doT_ 26 rfl ?_
    refine doT_ 27 rfl ?_
    refine doT_ 28 rfl ?_
    refine doT_ 29 rfl ?_
    refine dp_ 30 (fun _ => Run.pickT rfl rfl rfl rfl) ?_
    refine dd_ ?_
    clear HB HSW
    refine via_ hK5 ?_
    refine wy_ rfl ?_
    refine sr_ fun _ hK92 => ?_
    refine as_ ?_
    refine dn_ hK92 ?_
    obtain rfl := os H
    exact rt1 Try.f25 rfl rfl hR_ ⟨rfl, HS.b⟩
  refine dfg_ 17 (nB c22) Try.underlying39 ?_
  obtain ⟨A23, c24, hc25, le26, HS⟩ := HS.sO 1 rfl at39_4
  refine blg_ 18 (nB c22) HSW HB 0 Try.underlying23 hc25 ?_
  refine dg_ 19 (nB c22) (fun _ => Run.len (ts := #[]) rfl Try.underlying23 rfl) ?_
  refine dh_ 20 (nB c22) HB (fun w_ hw_ => Run.loadS (cs := cs0) rfl rfl Try.underlying39 rfl (by rw [el0]; kernel_rfl) (box_part ((HSW.below hw_).mu 0 rfl) part_all)) ?_
  obtain ⟨t27, ha28, H⟩ := bind_some H
  refine dcs_ HS HB 21 (w_on rfl rfl rfl (nB c22)) Try.func17 (impl_Vocab.runs k cs0 x0 t27 _ (HS.getO 2 rfl) ha28) (fun w29 HS HB => ?_)
  clear ha28
  refine dg_ 22 (nB c22) (fun _ => Run.bin rfl rfl rfl bin_neq) ?_
  refine dp_ 23 (fun _ => Run.pickF rfl rfl (nB c22) rfl) ?_
  refine dm_ 24 ?_
  rcases eti_ H with ⟨c30, H⟩ | ⟨c30, H⟩
  · refine doT_ 25 (qT c30) ?_
    refine doT_ 26 (qT c30) ?_
    refine doT_ 27 (qT c30) ?_
    refine doT_ 28 (qT c30) ?_
    refine doT_ 29 (qT c30) ?_
    refine dp_ 30 (fun _ => Run.pickT rfl rfl (qT c30) rfl) ?_
    refine dd_ ?_
    clear HB HSW
    refine via_ hK5 ?_
    refine wy_ rfl ?_
    refine sr_ fun _ hK91 => ?_
    refine as_ ?_
    refine dn_ hK91 ?_
    obtain rfl := os H
    exact rt1 Try.f25 rfl rfl hR_ ⟨rfl, HS.b⟩
  refine dfg_ 25 (qF c30) Try.underlying39 ?_
  obtain ⟨A31, c32, hc33, le34, HS⟩ := HS.sO 2 rfl at39_5
  refine blg_ 26 (qF c30) HSW HB 0 Try.underlying35 hc33 ?_
  refine dg_ 27 (qF c30) (fun _ => Run.len (ts := #[]) rfl Try.underlying35 rfl) ?_
  obtain ⟨t35, ha36, H⟩ := bind_some H
  refine dcs0_ HS HB 28 (w_on rfl rfl rfl (qF c30)) Try.func70 (impl_in.calls (x0.f5.length : Int) 1 2 t35 _ ha36) (fun w37 HS HB => ?_)
  clear ha36
  refine dg_ 29 (qF c30) (fun _ => Run.not rfl rfl) ?_
  refine dp_ 30 (fun _ => Run.pickF rfl rfl (qF c30) rfl) ?_
  refine dd_ ?_
  clear HB HSW
  refine via_ hK5 ?_
  rcases eti_ H with ⟨c38, H⟩ | ⟨c38, H⟩
  · refine wy_ (nB (bF c38)) ?_
    refine sr_ fun _ hK90 => ?_
    refine as_ ?_
    refine dn_ hK90 ?_
    obtain rfl := os H
    exact rt1 Try.f25 rfl rfl hR_ ⟨rfl, HS.b⟩
  refine wn_ (nB c38) ?_
  refine WC.skip ?_
  refine via_ hK4 ?_
  refine WC.seq fun _ hK39 => ?_
  refine sr_ fun _ hK40 => ?_
  refine v_ (fa_ Try.underlying39) ?_
  refine v_ (lb_ (HS.mu 0 rfl) Try.underlying23 hc25) ?_
  refine v_ (Run.makeFunc (cap := [.pointer (some ⟨b2, 0, none⟩)]) rfl rfl) ?_
  obtain ⟨t41, ha42, H⟩ := bind_some H
  refine cs_ HS Try.func72 (slices_ContainsFunc_int_int_73.runs k A23 c24 x0.f4 b2 cs0 x0 t41 _ (HS.getO 1 rfl) le26 (HS.getO 3 rfl) (HS.mu 0 rfl) ha42) (fun w43 HS => ?_)
  clear ha42
  refine dn_ hK40 ?_
  rcases ite_ H with ⟨c44, H⟩ | ⟨c44, H⟩
  · refine wy_ c44 ?_
    refine sr_ fun _ hK45 => ?_
    refine as_ ?_
    refine dn_ hK45 ?_
    obtain rfl := os H
    exact rt1 Try.f25 rfl rfl hR_ ⟨rfl, HS.b⟩
  refine wn_ (bF c44) ?_
  refine WC.skip ?_
  refine via_ hK39 ?_
  refine WC.seq fun _ hK46 => ?_
  refine sr_ fun _ hK47 => ?_
  refine v_ (fa_ Try.underlying39) ?_
  refine v_ (lb_ (HS.mu 0 rfl) Try.underlying35 hc33) ?_
  refine v_ (Run.makeFunc (cap := [.pointer (some ⟨b2, 0, none⟩)]) rfl rfl) ?_
  obtain ⟨t48, ha49, H⟩ := bind_some H
  refine cs_ HS Try.func75 (slices_ContainsFunc_impl_Layer_impl_Layer_76.runs k A31 c32 x0.f5 b2 cs0 x0 t48 _ (HS.getO 0 rfl) le34 (HS.getO 3 rfl) (HS.mu 0 rfl) ha49) (fun w50 HS => ?_)
  clear ha49
  refine dn_ hK47 ?_
  rcases ite_ H with ⟨c51, H⟩ | ⟨c51, H⟩
  · refine wy_ c51 ?_
    refine sr_ fun _ hK52 => ?_
    refine as_ ?_
    refine dn_ hK52 ?_
    obtain rfl := os H
    exact rt1 Try.f25 rfl rfl hR_ ⟨rfl, HS.b⟩
  refine wn_ (bF c51) ?_
  refine WC.skip ?_
  refine via_ hK46 ?_
  refine WC.seq fun _ hK53 => ?_
  refine WC.drawS HS [] rfl rfl (fun w54 HS => ?_)
  have HB := Below.refl w54.heap.size w54
  have HSW := HS
  refine df_ 0 Try.underlying39 ?_
  refine df_ 2 Try.underlying39 ?_
  obtain ⟨A55, c56, hc57, le58, HS⟩ := HS.sO 3 rfl at39_6
  refine bl_ 1 HS (Below.refl _ _) 0 Try.underlying25 hc57 ?_
  refine bl_ 3 HS (Below.refl _ _) 0 Try.underlying3 (at39_0 (HS.aO 4 rfl)).int ?_
  obtain ⟨t59, ha60, H⟩ := bind_some H
  refine dcs_ HS HB 4 (w_none rfl) Try.func28 (impl_GainOk.runs k A55 c56 x0.f6 x0.f0 t59 _ (HS.getO 0 rfl) le58 ha60) (fun w61 HS HB => ?_)
  clear ha60
  refine dm_ 5 ?_
  rcases eti_ H with ⟨c62, H⟩ | ⟨c62, H⟩
  · refine doF_ 6 (bF c62) ?_
    refine doF_ 7 (bF c62) ?_
    refine doF_ 8 (bF c62) ?_
    refine doF_ 9 (bF c62) ?_
    refine doF_ 10 (bF c62) ?_
    refine doF_ 11 (bF c62) ?_
    refine doF_ 12 (bF c62) ?_
    refine dp_ 13 (fun _ => Run.pickF rfl rfl (bF c62) rfl) ?_
    refine dm_ 14 ?_
    refine doF_ 15 rfl ?_
    refine doF_ 16 rfl ?_
    refine doF_ 17 rfl ?_
    refine doF_ 18 rfl ?_
    refine doF_ 19 rfl ?_
    refine doF_ 20 rfl ?_
    refine doF_ 21 rfl ?_
    refine doF_ 22 rfl ?_
    refine doF_ 23 rfl ?_
    refine doF_ 24 rfl ?_
    refine doF_ 25 rfl ?_
    refine dp_ 26 (fun _ => Run.pickF rfl rfl rfl rfl) ?_
    refine dp_ 27 (fun _ => Run.assign rfl rfl) ?_
    refine dd_ ?_
    clear HB HSW
    refine via_ hK53 ?_
    obtain rfl := os H
    exact rt1 Try.f25 rfl rfl hR_ ⟨rfl, HS.b⟩
  refine dfg_ 6 c62 Try.underlying39 ?_
  refine dfg_ 8 c62 Try.underlying39 ?_
  obtain ⟨A63, c64, hc65, le66, HS⟩ := HS.sO 4 rfl at39_8
  obtain ⟨A67, c68, hc69, le70, HS⟩ := HS.sO 5 rfl at39_9
  refine dh_ 7 c62 HB (fun w_ hw_ => Run.loadS (cs := [.int .i64 x0.f7.f0, .slice A63 x0.f7.f1.length c64, .slice A67 x0.f7.f2.length c68, .int .i64 x0.f7.f3, .int .i64 x0.f7.f4]) rfl rfl Try.underlying36 rfl (by kernel_rfl) (box_part ((HSW.below hw_).mu 0 rfl) (part_cons (at39_7 ((HSW.below hw_).aO 3 rfl)).int (part_cons hc65 (part_cons hc69 (part_cons (at39_10 ((HSW.below hw_).aO 3 rfl)).int (part_cons (at39_11 ((HSW.below hw_).aO 3 rfl)).int part_nil))))))) ?_
  refine blg_ 9 c62 HSW HB 0 Try.underlying3 (at39_0 (HSW.aO 3 rfl)).int ?_
  refine dh_ 10 c62 HB (fun w_ hw_ => Run.loadS (cs := cs0) rfl rfl Try.underlying39 rfl (by rw [el0]; kernel_rfl) (box_part ((HSW.below hw_).mu 0 rfl) part_all)) ?_
  obtain ⟨t71, ha72, H⟩ := bind_some H
  refine dcs_ HS HB 11 (w_on rfl rfl rfl c62) Try.func17 (impl_Vocab.runs k cs0 x0 t71 _ (HS.getO 6 rfl) ha72) (fun w73 HS HB => ?_)
  clear ha72
  obtain ⟨t74, ha75, H⟩ := bind_some H
  refine dcs_ HS HB 12 (w_on rfl rfl rfl c62) Try.func65 (impl_withinBudget.runs k x0.f7 A63 c64 A67 c68 x0.f0 t71 t74 _ (HS.getO 1 rfl) le66 (HS.getO 0 rfl) le70 ha75) (fun w76 HS HB => ?_)
  clear ha75
  refine dp_ 13 (fun _ => Run.pickT rfl rfl c62 rfl) ?_
  refine dm_ 14 ?_
  rcases eti_ H with ⟨c77, H⟩ | ⟨c77, H⟩
  · refine doF_ 15 (bF c77) ?_
    refine doF_ 16 (bF c77) ?_
    refine doF_ 17 (bF c77) ?_
    refine doF_ 18 (bF c77) ?_
    refine doF_ 19 (bF c77) ?_
    refine doF_ 20 (bF c77) ?_
    refine doF_ 21 (bF c77) ?_
    refine doF_ 22 (bF c77) ?_
    refine doF_ 23 (bF c77) ?_
    refine doF_ 24 (bF c77) ?_
    refine doF_ 25 (bF c77) ?_
    refine dp_ 26 (fun _ => Run.pickF rfl rfl (bF c77) rfl) ?_
    refine dp_ 27 (fun _ => Run.assign rfl rfl) ?_
    refine dd_ ?_
    clear HB HSW
    refine via_ hK53 ?_
    obtain rfl := os H
    exact rt1 Try.f25 rfl rfl hR_ ⟨rfl, HS.b⟩
  refine dfg_ 15 c77 Try.underlying39 ?_
  refine dfg_ 17 c77 Try.underlying39 ?_
  refine dfg_ 19 c77 Try.underlying39 ?_
  refine dfg_ 21 c77 Try.underlying39 ?_
  obtain ⟨A78, c79, hc80, le81, HS⟩ := HS.sO 6 rfl at39_12
  obtain ⟨A82, c83, hc84, le85, HS⟩ := HS.sO 7 rfl at39_13
  refine dh_ 16 c77 HB (fun w_ hw_ => Run.loadS (cs := [.slice A78 x0.f8.f0.length c79, .slice A82 x0.f8.f1.length c83]) rfl rfl Try.underlying37 rfl (by kernel_rfl) (box_part ((HSW.below hw_).mu 0 rfl) (part_cons hc80 (part_cons hc84 part_nil)))) ?_
  refine blg_ 18 c77 HSW HB 0 Try.underlying3 (at39_2 (HSW.aO 3 rfl)).int ?_
  refine blg_ 20 c77 HSW HB 0 Try.underlying3 (at39_0 (HSW.aO 3 rfl)).int ?_
  refine blg_ 22 c77 HSW HB 0 Try.underlying3 (at39_1 (HSW.aO 3 rfl)).int ?_
  obtain ⟨z86, H⟩ := if_some H
  refine dg_ 23 c77 (fun _ => Run.bin rfl rfl rfl (bin_quo64 z86)) ?_
  refine dg_ 24 c77 (fun _ => Run.bin rfl rfl rfl (bin_quo64 (show (2 : Int) ≠ 0 by decide))) ?_
  obtain ⟨t87, ha88, H⟩ := bind_some H
  refine dcs_ HS HB 25 (w_on rfl rfl rfl c77) Try.func77 (impl_TurnsOk.runs k x0.f8 A78 c79 A82 c83 x0.f2 (wrap64 (Int.tdiv (wrap64 (Int.tdiv x0.f0 x0.f1)) 2)) t87 _ (HS.getO 1 rfl) le81 (HS.getO 0 rfl) le85 ha88) (fun w89 HS HB => ?_)
  clear ha88
  refine dp_ 26 (fun _ => Run.pickT rfl rfl c77 rfl) ?_
  refine dp_ 27 (fun _ => Run.assign rfl rfl) ?_
  refine dd_ ?_
  clear HB HSW
  refine via_ hK53 ?_
  obtain rfl := os H
  exact rt1 Try.f25 rfl rfl hR_ ⟨rfl, HS.b⟩
def laws_szLayer.g (k : Nat) (x0 : S44) (a1 : Int) : Option Int := ((laws_szIntS.g k x0.f0 a1).bind fun t9 => (if t9 < 0 then (some (-1)) else ((laws_szMatrix.g k x0.f1 t9).bind fun t25 => (if t25 < 0 then (some (-1)) else ((laws_szMatrix.g k x0.f2 t25).bind fun t41 => (if t41 < 0 then (some (-1)) else ((laws_szMatrix.g k x0.f3 t41).bind fun t57 => (if t57 < 0 then (some (-1)) else ((laws_szMatrix.g k x0.f4 t57).bind fun t73 => (if t73 < 0 then (some (-1)) else ((laws_szIntS.g k x0.f5 t73).bind fun t85 => (if t85 < 0 then (some (-1)) else ((laws_szMatrix.g k x0.f6 t85).bind fun t101 => (if t101 < 0 then (some (-1)) else ((laws_szMatrix.g k x0.f7 t101).bind fun t117 => (if t117 < 0 then (some (-1)) else (some t117)))))))))))))))))
theorem laws_szLayer.runs (k : Nat) (cs0 : List Value) (x0 : S44) (a1 : Int) (r : Int) (w : World) (hk0 : k44.K w x0 cs0) (H : laws_szLayer.g k x0 a1 = some r) :
    Calls Try.prog 19 #[.agg cs0.toArray, .int .i64 a1] w fun e w' => e = .returned (.int .i64 r) ∧ Below w.heap.size w w' := by
  have el0 : cs0.length = 32 := k44.K_len hk0
  unfold laws_szLayer.g at H
  have HS : St (fun _ => True) w w [] [(kF k44 x0 cs0)] [] := St.start (foot_cons (foot_K h44 hk0) foot_nil)
  refine cw_ (n := 54) Try.func19 fun R_ hR_ => ?_
  refine sr_ fun _ hK1 => ?_
  refine bo_ HS (fun b2 w3 hb2 HS => ?_)
  refine as_ ?_
  refine dn_ hK1 ?_
  refine sr_ fun _ hK4 => ?_
  refine v_ (fa_ Try.underlying44) ?_
  obtain ⟨A5, c6, hc7, le8, HS⟩ := HS.sO 0 rfl at44_0
  refine v_ (lb_ (HS.mu 0 rfl) Try.underlying25 hc7) ?_
  refine mv_ ?_
  obtain ⟨t9, ha10, H⟩ := bind_some H
  refine cs_ HS Try.func46 (laws_szIntS.runs k A5 c6 x0.f0 a1 t9 _ (HS.getO 0 rfl) le8 ha10) (fun w11 HS => ?_)
  clear ha10
  refine as_ ?_
  refine dn_ hK4 ?_
  refine WC.seq fun _ hK12 => ?_
  refine sr_ fun _ hK13 => ?_
  refine mv_ ?_
  refine b_ bin_lss ?_
  refine dn_ hK13 ?_
  rcases ite_ H with ⟨c14, H⟩ | ⟨c14, H⟩
  · refine wy_ (dT c14) ?_
    refine sr_ fun _ hK15 => ?_
    refine as_ ?_
    refine dn_ hK15 ?_
    obtain rfl := os H
    exact rt1 Try.f19 rfl rfl hR_ ⟨rfl, HS.b⟩
  refine wn_ (dF c14) ?_
  refine WC.skip ?_
  refine via_ hK12 ?_
  refine sr_ fun _ hK16 => ?_
  refine v_ (fa_ Try.underlying44) ?_
  obtain ⟨A17, c18, hc19, le20, HS⟩ := HS.sO 1 rfl at44_2
  obtain ⟨A21, c22, hc23, le24, HS⟩ := HS.sO 2 rfl at44_3
  refine v_ (ls_ (HS.mu 0 rfl) Try.underlying27 (part_cons (at44_1 (HS.aO 3 rfl)).int (part_cons hc19 (part_cons hc23 (part_cons (at44_4 (HS.aO 3 rfl)).int (part_cons (at44_5 (HS.aO 3 rfl)).int part_nil)))))) ?_
  refine mv_ ?_
  obtain ⟨t25, ha26, H⟩ := bind_some H
  refine cs_ HS Try.func47 (laws_szMatrix.runs k x0.f1 A17 c18 A21 c22 t9 t25 _ (HS.getO 1 rfl) le20 (HS.getO 0 rfl) le24 ha26) (fun w27 HS => ?_)
  clear ha26
  refine as_ ?_
  refine dn_ hK16 ?_
  refine WC.seq fun _ hK28 => ?_
  refine sr_ fun _ hK29 => ?_
  refine mv_ ?_
  refine b_ bin_lss ?_
  refine dn_ hK29 ?_
  rcases ite_ H with ⟨c30, H⟩ | ⟨c30, H⟩
  · refine wy_ (dT c30) ?_
    refine sr_ fun _ hK31 => ?_
    refine as_ ?_
    refine dn_ hK31 ?_
    obtain rfl := os H
    exact rt1 Try.f19 rfl rfl hR_ ⟨rfl, HS.b⟩
  refine wn_ (dF c30) ?_
  refine WC.skip ?_
  refine via_ hK28 ?_
  refine sr_ fun _ hK32 => ?_
  refine v_ (fa_ Try.underlying44) ?_
  obtain ⟨A33, c34, hc35, le36, HS⟩ := HS.sO 3 rfl at44_7
  obtain ⟨A37, c38, hc39, le40, HS⟩ := HS.sO 4 rfl at44_8
  refine v_ (ls_ (HS.mu 0 rfl) Try.underlying27 (part_cons (at44_6 (HS.aO 5 rfl)).int (part_cons hc35 (part_cons hc39 (part_cons (at44_9 (HS.aO 5 rfl)).int (part_cons (at44_10 (HS.aO 5 rfl)).int part_nil)))))) ?_
  refine mv_ ?_
  obtain ⟨t41, ha42, H⟩ := bind_some H
  refine cs_ HS Try.func47 (laws_szMatrix.runs k x0.f2 A33 c34 A37 c38 t25 t41 _ (HS.getO 1 rfl) le36 (HS.getO 0 rfl) le40 ha42) (fun w43 HS => ?_)
  clear ha42
  refine as_ ?_
  refine dn_ hK32 ?_
  refine WC.seq fun _ hK44 => ?_
  refine sr_ fun _ hK45 => ?_
  refine mv_ ?_
  refine b_ bin_lss ?_
  refine dn_ hK45 ?_
  rcases ite_ H with ⟨c46, H⟩ | ⟨c46, H⟩
  · refine wy_ (dT c46) ?_
    refine sr_ fun _ hK47 => ?_
    refine as_ ?_
    refine dn_ hK47 ?_
    obtain rfl := os H
    exact rt1 Try.f19 rfl rfl hR_ ⟨rfl, HS.b⟩
  refine wn_ (dF c46) ?_
  refine WC.skip ?_
  refine via_ hK44 ?_
  refine sr_ fun _ hK48 => ?_
  refine v_ (fa_ Try.underlying44) ?_
  obtain ⟨A49, c50, hc51, le52, HS⟩ := HS.sO 5 rfl at44_12
  obtain ⟨A53, c54, hc55, le56, HS⟩ := HS.sO 6 rfl at44_13
  refine v_ (ls_ (HS.mu 0 rfl) Try.underlying27 (part_cons (at44_11 (HS.aO 7 rfl)).int (part_cons hc51 (part_cons hc55 (part_cons (at44_14 (HS.aO 7 rfl)).int (part_cons (at44_15 (HS.aO 7 rfl)).int part_nil)))))) ?_
  refine mv_ ?_
  obtain ⟨t57, ha58, H⟩ := bind_some H
  refine cs_ HS Try.func47 (laws_szMatrix.runs k x0.f3 A49 c50 A53 c54 t41 t57 _ (HS.getO 1 rfl) le52 (HS.getO 0 rfl) le56 ha58) (fun w59 HS => ?_)
  clear ha58
  refine as_ ?_
  refine dn_ hK48 ?_
  refine WC.seq fun _ hK60 => ?_
  refine sr_ fun _ hK61 => ?_
  refine mv_ ?_
  refine b_ bin_lss ?_
  refine dn_ hK61 ?_
  rcases ite_ H with ⟨c62, H⟩ | ⟨c62, H⟩
  · refine wy_ (dT c62) ?_
    refine sr_ fun _ hK63 => ?_
    refine as_ ?_
    refine dn_ hK63 ?_
    obtain rfl := os H
    exact rt1 Try.f19 rfl rfl hR_ ⟨rfl, HS.b⟩
  refine wn_ (dF c62) ?_
  refine WC.skip ?_
  refine via_ hK60 ?_
  refine sr_ fun _ hK64 => ?_
  refine v_ (fa_ Try.underlying44) ?_
  obtain ⟨A65, c66, hc67, le68, HS⟩ := HS.sO 7 rfl at44_17
  obtain ⟨A69, c70, hc71, le72, HS⟩ := HS.sO 8 rfl at44_18
  refine v_ (ls_ (HS.mu 0 rfl) Try.underlying27 (part_cons (at44_16 (HS.aO 9 rfl)).int (part_cons hc67 (part_cons hc71 (part_cons (at44_19 (HS.aO 9 rfl)).int (part_cons (at44_20 (HS.aO 9 rfl)).int part_nil)))))) ?_
  refine mv_ ?_
  obtain ⟨t73, ha74, H⟩ := bind_some H
  refine cs_ HS Try.func47 (laws_szMatrix.runs k x0.f4 A65 c66 A69 c70 t57 t73 _ (HS.getO 1 rfl) le68 (HS.getO 0 rfl) le72 ha74) (fun w75 HS => ?_)
  clear ha74
  refine as_ ?_
  refine dn_ hK64 ?_
  refine WC.seq fun _ hK76 => ?_
  refine sr_ fun _ hK77 => ?_
  refine mv_ ?_
  refine b_ bin_lss ?_
  refine dn_ hK77 ?_
  rcases ite_ H with ⟨c78, H⟩ | ⟨c78, H⟩
  · refine wy_ (dT c78) ?_
    refine sr_ fun _ hK79 => ?_
    refine as_ ?_
    refine dn_ hK79 ?_
    obtain rfl := os H
    exact rt1 Try.f19 rfl rfl hR_ ⟨rfl, HS.b⟩
  refine wn_ (dF c78) ?_
  refine WC.skip ?_
  refine via_ hK76 ?_
  refine sr_ fun _ hK80 => ?_
  refine v_ (fa_ Try.underlying44) ?_
  obtain ⟨A81, c82, hc83, le84, HS⟩ := HS.sO 9 rfl at44_21
  refine v_ (lb_ (HS.mu 0 rfl) Try.underlying25 hc83) ?_
  refine mv_ ?_
  obtain ⟨t85, ha86, H⟩ := bind_some H
  refine cs_ HS Try.func46 (laws_szIntS.runs k A81 c82 x0.f5 t73 t85 _ (HS.getO 0 rfl) le84 ha86) (fun w87 HS => ?_)
  clear ha86
  refine as_ ?_
  refine dn_ hK80 ?_
  refine WC.seq fun _ hK88 => ?_
  refine sr_ fun _ hK89 => ?_
  refine mv_ ?_
  refine b_ bin_lss ?_
  refine dn_ hK89 ?_
  rcases ite_ H with ⟨c90, H⟩ | ⟨c90, H⟩
  · refine wy_ (dT c90) ?_
    refine sr_ fun _ hK91 => ?_
    refine as_ ?_
    refine dn_ hK91 ?_
    obtain rfl := os H
    exact rt1 Try.f19 rfl rfl hR_ ⟨rfl, HS.b⟩
  refine wn_ (dF c90) ?_
  refine WC.skip ?_
  refine via_ hK88 ?_
  refine sr_ fun _ hK92 => ?_
  refine v_ (fa_ Try.underlying44) ?_
  obtain ⟨A93, c94, hc95, le96, HS⟩ := HS.sO 10 rfl at44_23
  obtain ⟨A97, c98, hc99, le100, HS⟩ := HS.sO 11 rfl at44_24
  refine v_ (ls_ (HS.mu 0 rfl) Try.underlying27 (part_cons (at44_22 (HS.aO 12 rfl)).int (part_cons hc95 (part_cons hc99 (part_cons (at44_25 (HS.aO 12 rfl)).int (part_cons (at44_26 (HS.aO 12 rfl)).int part_nil)))))) ?_
  refine mv_ ?_
  obtain ⟨t101, ha102, H⟩ := bind_some H
  refine cs_ HS Try.func47 (laws_szMatrix.runs k x0.f6 A93 c94 A97 c98 t85 t101 _ (HS.getO 1 rfl) le96 (HS.getO 0 rfl) le100 ha102) (fun w103 HS => ?_)
  clear ha102
  refine as_ ?_
  refine dn_ hK92 ?_
  refine WC.seq fun _ hK104 => ?_
  refine sr_ fun _ hK105 => ?_
  refine mv_ ?_
  refine b_ bin_lss ?_
  refine dn_ hK105 ?_
  rcases ite_ H with ⟨c106, H⟩ | ⟨c106, H⟩
  · refine wy_ (dT c106) ?_
    refine sr_ fun _ hK107 => ?_
    refine as_ ?_
    refine dn_ hK107 ?_
    obtain rfl := os H
    exact rt1 Try.f19 rfl rfl hR_ ⟨rfl, HS.b⟩
  refine wn_ (dF c106) ?_
  refine WC.skip ?_
  refine via_ hK104 ?_
  refine sr_ fun _ hK108 => ?_
  refine v_ (fa_ Try.underlying44) ?_
  obtain ⟨A109, c110, hc111, le112, HS⟩ := HS.sO 12 rfl at44_28
  obtain ⟨A113, c114, hc115, le116, HS⟩ := HS.sO 13 rfl at44_29
  refine v_ (ls_ (HS.mu 0 rfl) Try.underlying27 (part_cons (at44_27 (HS.aO 14 rfl)).int (part_cons hc111 (part_cons hc115 (part_cons (at44_30 (HS.aO 14 rfl)).int (part_cons (at44_31 (HS.aO 14 rfl)).int part_nil)))))) ?_
  refine mv_ ?_
  obtain ⟨t117, ha118, H⟩ := bind_some H
  refine cs_ HS Try.func47 (laws_szMatrix.runs k x0.f7 A109 c110 A113 c114 t101 t117 _ (HS.getO 1 rfl) le112 (HS.getO 0 rfl) le116 ha118) (fun w119 HS => ?_)
  clear ha118
  refine as_ ?_
  refine dn_ hK108 ?_
  refine WC.seq fun _ hK120 => ?_
  refine sr_ fun _ hK121 => ?_
  refine mv_ ?_
  refine b_ bin_lss ?_
  refine dn_ hK121 ?_
  rcases ite_ H with ⟨c122, H⟩ | ⟨c122, H⟩
  · refine wy_ (dT c122) ?_
    refine sr_ fun _ hK123 => ?_
    refine as_ ?_
    refine dn_ hK123 ?_
    obtain rfl := os H
    exact rt1 Try.f19 rfl rfl hR_ ⟨rfl, HS.b⟩
  refine wn_ (dF c122) ?_
  refine WC.skip ?_
  refine via_ hK120 ?_
  refine sr_ fun _ hK124 => ?_
  refine mv_ ?_
  refine as_ ?_
  refine dn_ hK124 ?_
  obtain rfl := os H
  exact rt1 Try.f19 rfl rfl hR_ ⟨rfl, HS.b⟩
def laws_szLayerS.b0 (l0 : List S44) (rec_ : Int → Int → Option (Int ⊕ (Int × Int))) (k21 : Nat) (i13 : Int) (i14 : Int) : Option (Int ⊕ (Int × Int)) := (if i14 < (l0.length : Int) then (if 0 ≤ i14 ∧ i14 < (l0.length : Int) then ((laws_szLayer.g k21 (l0.getD i14.toNat o44) i13).bind fun t32 => (if t32 < 0 then (some (Sum.inl (-1))) else (rec_ t32 (wrap64 (i14 + 1))))) else none) else (some (Sum.inr (i13, i14))))
def laws_szLayerS.l0 (l0 : List S44) : Nat → Int → Int → Option (Int ⊕ (Int × Int))
  | 0, _, _ => none
  | k + 1, i13, i14 => laws_szLayerS.b0 l0 (laws_szLayerS.l0 l0 k) k i13 i14
def laws_szLayerS.g (k : Nat) (l0 : List S44) (a1 : Int) : Option Int := (if (wrap64 (a1 - (l0.length : Int))) < 0 then (some (-1)) else ((laws_szLayerS.l0 l0 k (wrap64 (a1 - (l0.length : Int))) 0).bind (fun oc19 => match oc19 with | .inl r_ => some r_ | .inr ⟨i13, i14⟩ => (some i13))))
theorem laws_szLayerS.runs (k : Nat) (A0 : Option Addr) (c0 : Nat) (l0 : List S44) (a1 : Int) (r : Int) (w : World) (hr0 : k44.C w A0 l0.length l0) (hc0 : l0.length ≤ c0) (H : laws_szLayerS.g k l0 a1 = some r) :
    Calls Try.prog 45 #[.slice A0 l0.length c0, .int .i64 a1] w fun e w' => e = .returned (.int .i64 r) ∧ Below w.heap.size w w' := by
  unfold laws_szLayerS.g at H
  have HS : St (fun _ => True) w w [] [(cF k44 A0 l0)] [] := St.start (foot_cons (foot_C h44 hr0) foot_nil)
  refine cw_ (n := 27) Try.func45 fun R_ hR_ => ?_
  refine sr_ fun _ hK1 => ?_
  refine as_ ?_
  refine dn_ hK1 ?_
  refine sr_ fun _ hK2 => ?_
  refine mv_ ?_
  refine mv_ ?_
  refine ln_ Try.underlying24 ?_
  refine b_ bin_sub64 ?_
  refine as_ ?_
  refine dn_ hK2 ?_
  refine WC.seq fun _ hK3 => ?_
  refine sr_ fun _ hK4 => ?_
  refine mv_ ?_
  refine b_ bin_lss ?_
  refine dn_ hK4 ?_
  rcases ite_ H with ⟨c5, H⟩ | ⟨c5, H⟩
  · refine wy_ (dT c5) ?_
    refine sr_ fun _ hK6 => ?_
    refine as_ ?_
    refine dn_ hK6 ?_
    obtain rfl := os H
    exact rt1 Try.f45 rfl rfl hR_ ⟨rfl, HS.b⟩
  refine wn_ (dF c5) ?_
  refine WC.skip ?_
  refine via_ hK3 ?_
  refine WC.seq fun K7 hK7 => ?_
  refine sr_ fun _ hK8 => ?_
  refine as_ ?_
  refine dn_ hK8 ?_
  refine WC.block ?_
  obtain ⟨G9, hG10, oc11, H, Ho12⟩ := open_G H
  let J15 := fun (i13 : Int) (i14 : Int) (E_ : Env) (W_ : World) => E_ = [(0, .slice A0 l0.length c0), (1, .int .i64 i13), (5, .int .i64 i14)] ∧ St (fun _ => True) w W_ [] [(cF k44 A0 l0)] []
  have X16 : ∀ E_ W_, (∃ i13 i14, G9 (Sum.inr (i13, i14)) = some r ∧ J15 i13 i14 E_ W_) → ∀ a, Fits a 27 E_ → K7 a W_ := by
    rintro E_ w17 ⟨i13, i14, H, rfl, HS⟩
    rw [hG10] at H
    (try dsimp only at H)
    refine hK7 _ _ ?_
    refine sr_ fun _ hK18 => ?_
    refine mv_ ?_
    refine as_ ?_
    refine dn_ hK18 ?_
    obtain rfl := os H
    exact rt1 Try.f45 rfl rfl hR_ ⟨rfl, HS.b⟩
  refine WC.loop (fun k_ E_ W_ => ∃ i13 i14, (∃ o_, laws_szLayerS.l0 l0 k_ i13 i14 = some o_ ∧ G9 o_ = some r) ∧ J15 i13 i14 E_ W_) k ⟨(wrap64 (a1 - (l0.length : Int))), 0, ⟨_, H, Ho12⟩, rfl, HS⟩ (sb rfl) ?_
  rintro k_ E_ w20 ⟨i13, i14, ⟨oc11, H, Ho12⟩, rfl, HS⟩
  rcases k_ with _ | k21
  · exact no_ H
  replace H : laws_szLayerS.b0 l0 (laws_szLayerS.l0 l0 k21) k21 i13 i14 = some oc11 := H
  unfold laws_szLayerS.b0 at H
  refine WC.seq fun _ hK22 => ?_
  refine sr_ fun _ hK23 => ?_
  refine mv_ ?_
  refine mv_ ?_
  refine ln_ Try.underlying24 ?_
  refine b_ bin_lss ?_
  refine dn_ hK23 ?_
  rcases eti_ H with ⟨c24, H⟩ | ⟨c24, H⟩
  · refine wn_ (dF c24) ?_
    refine WC.exit ?_
    obtain rfl := os H
    exact WQ.via2 (fun _ _ h_ => h_) X16 ⟨i13, i14, Ho12, rfl, HS⟩ (sb rfl)
  refine wy_ (dT c24) ?_
  refine WC.skip ?_
  refine via_ hK22 ?_
  refine WC.seq fun _ hK25 => ?_
  refine WC.block ?_
  refine sr_ fun _ hK26 => ?_
  refine mv_ ?_
  refine mv_ ?_
  obtain ⟨⟨q27, q28⟩, H⟩ := if_some H
  obtain ⟨ad29, rfl⟩ := C_open (HS.getO 0 rfl) (by omega)
  refine v_ (ia_ Try.underlying24 32 q27 q28) ?_
  obtain ⟨e30, el31, HS⟩ := HS.elO 0 rfl (by decide) o44 i14 q27 q28
  replace HS := HS.deriveO (p := (kF k44 (l0.getD i14.toNat o44) e30)) (fun W_ hO_ hN_ => hO_.1.1)
  refine v_ (Run.loadS (cs := e30) rfl rfl Try.underlying44 rfl (by rw [el31]; kernel_rfl) (HS.getO 1 rfl).2) ?_
  refine mv_ ?_
  obtain ⟨t32, ha33, H⟩ := bind_some H
  refine cs_ HS Try.func19 (laws_szLayer.runs k21 e30 (l0.getD i14.toNat o44) i13 t32 _ (HS.getO 0 rfl) ha33) (fun w34 HS => ?_)
  clear ha33
  refine as_ ?_
  refine dn_ hK26 ?_
  refine sr_ fun _ hK35 => ?_
  refine mv_ ?_
  refine b_ bin_lss ?_
  refine dn_ hK35 ?_
  rcases eti_ H with ⟨c36, H⟩ | ⟨c36, H⟩
  · refine wn_ (dF c36) ?_
    refine WC.skip ?_
    refine via_ hK25 ?_
    refine rg_ ?_
    refine mv_ ?_
    refine b_ bin_add64 ?_
    refine as_ ?_
    refine WL.done ?_
    exact WQ.round k21 (fun _ _ h_ => h_) (Nat.lt_succ_self _) ⟨t32, (wrap64 (i14 + 1)), ⟨_, H, Ho12⟩, rfl, (St.pk HS [2] [] rfl rfl)⟩ (sb rfl)
  refine wy_ (dT c36) ?_
  refine sr_ fun _ hK37 => ?_
  refine as_ ?_
  refine dn_ hK37 ?_
  refine WC.ret ?_
  obtain rfl := os H
  rw [hG10] at Ho12
  replace H : some _ = some _ := Ho12
  obtain rfl := os H
  exact fin1 Try.f45 rfl rfl hR_ ⟨rfl, HS.b⟩
def laws_szModel.g (k : Nat) (x0 : S31) (a1 : Int) : Option Int := ((laws_szMergeS.g k x0.f3 a1).bind fun t9 => (if t9 < 0 then (some (-1)) else ((laws_szIntSS.g k x0.f4 t9).bind fun t21 => (if t21 < 0 then (some (-1)) else ((laws_szLayerS.g k x0.f5 t21).bind fun t33 => (if t33 < 0 then (some (-1)) else ((laws_szIntS.g k x0.f6 t33).bind fun t45 => (if t45 < 0 then (some (-1)) else ((laws_szMatrix.g k x0.f7 t45).bind fun t61 => (if t61 < 0 then (some (-1)) else ((laws_szTurns.g k x0.f8 t61).bind fun t77 => (if t77 < 0 then (some (-1)) else (some t77)))))))))))))
theorem laws_szModel.runs (k : Nat) (cs0 : List Value) (x0 : S31) (a1 : Int) (r : Int) (w : World) (hk0 : k31.K w x0 cs0) (H : laws_szModel.g k x0 a1 = some r) :
    Calls Try.prog 14 #[.agg cs0.toArray, .int .i64 a1] w fun e w' => e = .returned (.int .i64 r) ∧ Below w.heap.size w w' := by
  have el0 : cs0.length = 14 := k31.K_len hk0
  unfold laws_szModel.g at H
  have HS : St (fun _ => True) w w [] [(kF k31 x0 cs0)] [] := St.start (foot_cons (foot_K h31 hk0) foot_nil)
  refine cw_ (n := 42) Try.func14 fun R_ hR_ => ?_
  refine sr_ fun _ hK1 => ?_
  refine bo_ HS (fun b2 w3 hb2 HS => ?_)
  refine as_ ?_
  refine dn_ hK1 ?_
  refine sr_ fun _ hK4 => ?_
  refine v_ (fa_ Try.underlying31) ?_
  obtain ⟨A5, c6, hc7, le8, HS⟩ := HS.sO 0 rfl at31_3
  refine v_ (lb_ (HS.mu 0 rfl) Try.underlying22 hc7) ?_
  refine mv_ ?_
  obtain ⟨t9, ha10, H⟩ := bind_some H
  refine cs_ HS Try.func43 (laws_szMergeS.runs k A5 c6 x0.f3 a1 t9 _ (HS.getO 0 rfl) le8 ha10) (fun w11 HS => ?_)
  clear ha10
  refine as_ ?_
  refine dn_ hK4 ?_
  refine WC.seq fun _ hK12 => ?_
  refine sr_ fun _ hK13 => ?_
  refine mv_ ?_
  refine b_ bin_lss ?_
  refine dn_ hK13 ?_
  rcases ite_ H with ⟨c14, H⟩ | ⟨c14, H⟩
  · refine wy_ (dT c14) ?_
    refine sr_ fun _ hK15 => ?_
    refine as_ ?_
    refine dn_ hK15 ?_
    obtain rfl := os H
    exact rt1 Try.f14 rfl rfl hR_ ⟨rfl, HS.b⟩
  refine wn_ (dF c14) ?_
  refine WC.skip ?_
  refine via_ hK12 ?_
  refine sr_ fun _ hK16 => ?_
  refine v_ (fa_ Try.underlying31) ?_
  obtain ⟨A17, c18, hc19, le20, HS⟩ := HS.sO 1 rfl at31_4
  refine v_ (lb_ (HS.mu 0 rfl) Try.underlying23 hc19) ?_
  refine mv_ ?_
  obtain ⟨t21, ha22, H⟩ := bind_some H
  refine cs_ HS Try.func44 (laws_szIntSS.runs k A17 c18 x0.f4 t9 t21 _ (HS.getO 0 rfl) le20 ha22) (fun w23 HS => ?_)
  clear ha22
  refine as_ ?_
  refine dn_ hK16 ?_
  refine WC.seq fun _ hK24 => ?_
  refine sr_ fun _ hK25 => ?_
  refine mv_ ?_
  refine b_ bin_lss ?_
  refine dn_ hK25 ?_
  rcases ite_ H with ⟨c26, H⟩ | ⟨c26, H⟩
  · refine wy_ (dT c26) ?_
    refine sr_ fun _ hK27 => ?_
    refine as_ ?_
    refine dn_ hK27 ?_
    obtain rfl := os H
    exact rt1 Try.f14 rfl rfl hR_ ⟨rfl, HS.b⟩
  refine wn_ (dF c26) ?_
  refine WC.skip ?_
  refine via_ hK24 ?_
  refine sr_ fun _ hK28 => ?_
  refine v_ (fa_ Try.underlying31) ?_
  obtain ⟨A29, c30, hc31, le32, HS⟩ := HS.sO 2 rfl at31_5
  refine v_ (lb_ (HS.mu 0 rfl) Try.underlying24 hc31) ?_
  refine mv_ ?_
  obtain ⟨t33, ha34, H⟩ := bind_some H
  refine cs_ HS Try.func45 (laws_szLayerS.runs k A29 c30 x0.f5 t21 t33 _ (HS.getO 0 rfl) le32 ha34) (fun w35 HS => ?_)
  clear ha34
  refine as_ ?_
  refine dn_ hK28 ?_
  refine WC.seq fun _ hK36 => ?_
  refine sr_ fun _ hK37 => ?_
  refine mv_ ?_
  refine b_ bin_lss ?_
  refine dn_ hK37 ?_
  rcases ite_ H with ⟨c38, H⟩ | ⟨c38, H⟩
  · refine wy_ (dT c38) ?_
    refine sr_ fun _ hK39 => ?_
    refine as_ ?_
    refine dn_ hK39 ?_
    obtain rfl := os H
    exact rt1 Try.f14 rfl rfl hR_ ⟨rfl, HS.b⟩
  refine wn_ (dF c38) ?_
  refine WC.skip ?_
  refine via_ hK36 ?_
  refine sr_ fun _ hK40 => ?_
  refine v_ (fa_ Try.underlying31) ?_
  obtain ⟨A41, c42, hc43, le44, HS⟩ := HS.sO 3 rfl at31_6
  refine v_ (lb_ (HS.mu 0 rfl) Try.underlying25 hc43) ?_
  refine mv_ ?_
  obtain ⟨t45, ha46, H⟩ := bind_some H
  refine cs_ HS Try.func46 (laws_szIntS.runs k A41 c42 x0.f6 t33 t45 _ (HS.getO 0 rfl) le44 ha46) (fun w47 HS => ?_)
  clear ha46
  refine as_ ?_
  refine dn_ hK40 ?_
  refine WC.seq fun _ hK48 => ?_
  refine sr_ fun _ hK49 => ?_
  refine mv_ ?_
  refine b_ bin_lss ?_
  refine dn_ hK49 ?_
  rcases ite_ H with ⟨c50, H⟩ | ⟨c50, H⟩
  · refine wy_ (dT c50) ?_
    refine sr_ fun _ hK51 => ?_
    refine as_ ?_
    refine dn_ hK51 ?_
    obtain rfl := os H
    exact rt1 Try.f14 rfl rfl hR_ ⟨rfl, HS.b⟩
  refine wn_ (dF c50) ?_
  refine WC.skip ?_
  refine via_ hK48 ?_
  refine sr_ fun _ hK52 => ?_
  refine v_ (fa_ Try.underlying31) ?_
  obtain ⟨A53, c54, hc55, le56, HS⟩ := HS.sO 4 rfl at31_8
  obtain ⟨A57, c58, hc59, le60, HS⟩ := HS.sO 5 rfl at31_9
  refine v_ (ls_ (HS.mu 0 rfl) Try.underlying27 (part_cons (at31_7 (HS.aO 6 rfl)).int (part_cons hc55 (part_cons hc59 (part_cons (at31_10 (HS.aO 6 rfl)).int (part_cons (at31_11 (HS.aO 6 rfl)).int part_nil)))))) ?_
  refine mv_ ?_
  obtain ⟨t61, ha62, H⟩ := bind_some H
  refine cs_ HS Try.func47 (laws_szMatrix.runs k x0.f7 A53 c54 A57 c58 t45 t61 _ (HS.getO 1 rfl) le56 (HS.getO 0 rfl) le60 ha62) (fun w63 HS => ?_)
  clear ha62
  refine as_ ?_
  refine dn_ hK52 ?_
  refine WC.seq fun _ hK64 => ?_
  refine sr_ fun _ hK65 => ?_
  refine mv_ ?_
  refine b_ bin_lss ?_
  refine dn_ hK65 ?_
  rcases ite_ H with ⟨c66, H⟩ | ⟨c66, H⟩
  · refine wy_ (dT c66) ?_
    refine sr_ fun _ hK67 => ?_
    refine as_ ?_
    refine dn_ hK67 ?_
    obtain rfl := os H
    exact rt1 Try.f14 rfl rfl hR_ ⟨rfl, HS.b⟩
  refine wn_ (dF c66) ?_
  refine WC.skip ?_
  refine via_ hK64 ?_
  refine sr_ fun _ hK68 => ?_
  refine v_ (fa_ Try.underlying31) ?_
  obtain ⟨A69, c70, hc71, le72, HS⟩ := HS.sO 6 rfl at31_12
  obtain ⟨A73, c74, hc75, le76, HS⟩ := HS.sO 7 rfl at31_13
  refine v_ (ls_ (HS.mu 0 rfl) Try.underlying29 (part_cons hc71 (part_cons hc75 part_nil))) ?_
  refine mv_ ?_
  obtain ⟨t77, ha78, H⟩ := bind_some H
  refine cs_ HS Try.func48 (laws_szTurns.runs k x0.f8 A69 c70 A73 c74 t61 t77 _ (HS.getO 1 rfl) le72 (HS.getO 0 rfl) le76 ha78) (fun w79 HS => ?_)
  clear ha78
  refine as_ ?_
  refine dn_ hK68 ?_
  refine WC.seq fun _ hK80 => ?_
  refine sr_ fun _ hK81 => ?_
  refine mv_ ?_
  refine b_ bin_lss ?_
  refine dn_ hK81 ?_
  rcases ite_ H with ⟨c82, H⟩ | ⟨c82, H⟩
  · refine wy_ (dT c82) ?_
    refine sr_ fun _ hK83 => ?_
    refine as_ ?_
    refine dn_ hK83 ?_
    obtain rfl := os H
    exact rt1 Try.f14 rfl rfl hR_ ⟨rfl, HS.b⟩
  refine wn_ (dF c82) ?_
  refine WC.skip ?_
  refine via_ hK80 ?_
  refine sr_ fun _ hK84 => ?_
  refine mv_ ?_
  refine as_ ?_
  refine dn_ hK84 ?_
  obtain rfl := os H
  exact rt1 Try.f14 rfl rfl hR_ ⟨rfl, HS.b⟩
def laws_toLayer.g (k : Nat) (x0 : S44) : Option S48 := ((laws_toIntS.g k x0.f0).bind fun t14 => ((laws_toMatrix.g k x0.f1).bind fun t31 => ((laws_toMatrix.g k x0.f2).bind fun t52 => ((laws_toMatrix.g k x0.f3).bind fun t73 => ((laws_toMatrix.g k x0.f4).bind fun t94 => ((laws_toIntS.g k x0.f5).bind fun t111 => ((laws_toMatrix.g k x0.f6).bind fun t128 => ((laws_toMatrix.g k x0.f7).bind fun t149 => (some (⟨t14, (⟨t31.f0, t31.f1, t31.f2, t31.f3, t31.f4⟩ : S36), (⟨t52.f0, t52.f1, t52.f2, t52.f3, t52.f4⟩ : S36), (⟨t73.f0, t73.f1, t73.f2, t73.f3, t73.f4⟩ : S36), (⟨t94.f0, t94.f1, t94.f2, t94.f3, t94.f4⟩ : S36), t111, (⟨t128.f0, t128.f1, t128.f2, t128.f3, t128.f4⟩ : S36), (⟨t149.f0, t149.f1, t149.f2, t149.f3, t149.f4⟩ : S36)⟩ : S48))))))))))
theorem laws_toLayer.runs (k : Nat) (cs0 : List Value) (x0 : S44) (r : S48) (w : World) (hk0 : k44.K w x0 cs0) (H : laws_toLayer.g k x0 = some r) :
    Calls Try.prog 21 #[.agg cs0.toArray] w fun e w' => ∃ (cs0_ : List Value), e = .returned (.agg cs0_.toArray) ∧ Foot (kF k48 r cs0_) w' (fun k_ => w.heap.size ≤ k_) ∧ Below w.heap.size w w' := by
  have el0 : cs0.length = 32 := k44.K_len hk0
  unfold laws_toLayer.g at H
  have HS : St (fun _ => True) w w [] [(kF k44 x0 cs0)] [] := St.start (foot_cons (foot_K h44 hk0) foot_nil)
  refine cw_ (n := 37) Try.func21 fun R_ hR_ => ?_
  refine sr_ fun _ hK1 => ?_
  refine bo_ HS (fun b2 w3 hb2 HS => ?_)
  refine WL.alloc HS (v := .agg #[.slice none 0 0, .int .i64 0, .slice none 0 0, .slice none 0 0, .int .i64 0, .int .i64 0, .int .i64 0, .slice none 0 0, .slice none 0 0, .int .i64 0, .int .i64 0, .int .i64 0, .slice none 0 0, .slice none 0 0, .int .i64 0, .int .i64 0, .int .i64 0, .slice none 0 0, .slice none 0 0, .int .i64 0, .int .i64 0, .slice none 0 0, .int .i64 0, .slice none 0 0, .slice none 0 0, .int .i64 0, .int .i64 0, .int .i64 0, .slice none 0 0, .slice none 0 0, .int .i64 0, .int .i64 0]) (cs := #[.slice none 0 0, .int .i64 0, .slice none 0 0, .slice none 0 0, .int .i64 0, .int .i64 0, .int .i64 0, .slice none 0 0, .slice none 0 0, .int .i64 0, .int .i64 0, .int .i64 0, .slice none 0 0, .slice none 0 0, .int .i64 0, .int .i64 0, .int .i64 0, .slice none 0 0, .slice none 0 0, .int .i64 0, .int .i64 0, .slice none 0 0, .int .i64 0, .slice none 0 0, .slice none 0 0, .int .i64 0, .int .i64 0, .int .i64 0, .slice none 0 0, .slice none 0 0, .int .i64 0, .int .i64 0]) rfl rfl (by decide) rfl (by kernel_rfl) rfl (fun b4 w5 hb4 HS => ?_)
  refine dn_ hK1 ?_
  exact by (
  clear hK1
  refine sr_ fun _ hK6 => ?_
  refine WL.alloc HS (v := .agg #[.slice none 0 0, .int .i64 0, .slice none 0 0, .slice none 0 0, .int .i64 0, .int .i64 0, .int .i64 0, .slice none 0 0, .slice none 0 0, .int .i64 0, .int .i64 0, .int .i64 0, .slice none 0 0, .slice none 0 0, .int .i64 0, .int .i64 0, .int .i64 0, .slice none 0 0, .slice none 0 0, .int .i64 0, .int .i64 0, .slice none 0 0, .int .i64 0, .slice none 0 0, .slice none 0 0, .int .i64 0, .int .i64 0, .int .i64 0, .slice none 0 0, .slice none 0 0, .int .i64 0, .int .i64 0]) (cs := #[.slice none 0 0, .int .i64 0, .slice none 0 0, .slice none 0 0, .int .i64 0, .int .i64 0, .int .i64 0, .slice none 0 0, .slice none 0 0, .int .i64 0, .int .i64 0, .int .i64 0, .slice none 0 0, .slice none 0 0, .int .i64 0, .int .i64 0, .int .i64 0, .slice none 0 0, .slice none 0 0, .int .i64 0, .int .i64 0, .slice none 0 0, .int .i64 0, .slice none 0 0, .slice none 0 0, .int .i64 0, .int .i64 0, .int .i64 0, .slice none 0 0, .slice none 0 0, .int .i64 0, .int .i64 0]) rfl rfl (by decide) rfl (by kernel_rfl) rfl (fun b7 w8 hb7 HS => ?_)
  refine dn_ hK6 ?_
  clear hK6
  refine sr_ fun _ hK9 => ?_
  refine v_ (fa_ Try.underlying44) ?_
  obtain ⟨A10, c11, hc12, le13, HS⟩ := HS.sO 0 rfl at44_0
  exact by (
  refine v_ (lb_ (HS.mu 2 rfl) Try.underlying25 hc12) ?_
  obtain ⟨t14, ha15, H⟩ := bind_some H
  refine c_ Try.func52 (laws_toIntS.runs k A10 c11 x0.f0 t14 _ (HS.getO 0 rfl) le13 ha15) ?_
  clear ha15
  rintro _ w16 ⟨A17, c18, rfl, le19, hf20, hb⟩
  replace HS := HS.newNs hb (foot_cons hf20 foot_nil)
  refine ⟨_, rfl, ?_⟩
  clear hb
  exact by (
  refine v_ (fa_ Try.underlying48) ?_
  refine WL.store HS 0 rfl rfl rfl rfl rfl rfl rfl (by kernel_rfl) (Nat.le_of_ble_eq_true rfl) (cs' := #[.slice A17 t14.length c18, .int .i64 0, .slice none 0 0, .slice none 0 0, .int .i64 0, .int .i64 0, .int .i64 0, .slice none 0 0, .slice none 0 0, .int .i64 0, .int .i64 0, .int .i64 0, .slice none 0 0, .slice none 0 0, .int .i64 0, .int .i64 0, .int .i64 0, .slice none 0 0, .slice none 0 0, .int .i64 0, .int .i64 0, .slice none 0 0, .int .i64 0, .slice none 0 0, .slice none 0 0, .int .i64 0, .int .i64 0, .int .i64 0, .slice none 0 0, .slice none 0 0, .int .i64 0, .int .i64 0]) (by kernel_rfl) (fun w21 HS => ?_)
  dsimp only [List.set] at HS
  refine dn_ hK9 ?_
  clear hK9
  refine sr_ fun _ hK22 => ?_
  refine v_ (fa_ Try.underlying44) ?_
  obtain ⟨A23, c24, hc25, le26, HS⟩ := HS.sO 1 rfl at44_2
  exact by (
  obtain ⟨A27, c28, hc29, le30, HS⟩ := HS.sO 2 rfl at44_3
  refine v_ (ls_ (HS.mu 2 rfl) Try.underlying27 (part_cons (at44_1 (HS.aO 3 rfl)).int (part_cons hc25 (part_cons hc29 (part_cons (at44_4 (HS.aO 3 rfl)).int (part_cons (at44_5 (HS.aO 3 rfl)).int part_nil)))))) ?_
  obtain ⟨t31, ha32, H⟩ := bind_some H
  refine c_ Try.func53 (laws_toMatrix.runs k x0.f1 A23 c24 A27 c28 t31 _ (HS.getO 1 rfl) le26 (HS.getO 0 rfl) le30 ha32) ?_
  clear ha32
  rintro _ w33 ⟨A34, c35, A38, c39, rfl, le36, hf37, le40, hf41, hb⟩
  replace HS := HS.newNs hb (foot_cons hf37 (foot_cons hf41 foot_nil))
  refine ⟨_, rfl, ?_⟩
  exact by (
  clear hb
  refine v_ (fa_ Try.underlying48) ?_
  refine WL.storeS HS 0 rfl rfl rfl rfl rfl rfl (oneL rfl) (by kernel_rfl) (Nat.le_of_ble_eq_true rfl) (cs' := #[.slice A17 t14.length c18, .int .i64 t31.f0, .slice A34 t31.f1.length c35, .slice A38 t31.f2.length c39, .int .i64 t31.f3, .int .i64 t31.f4, .int .i64 0, .slice none 0 0, .slice none 0 0, .int .i64 0, .int .i64 0, .int .i64 0, .slice none 0 0, .slice none 0 0, .int .i64 0, .int .i64 0, .int .i64 0, .slice none 0 0, .slice none 0 0, .int .i64 0, .int .i64 0, .slice none 0 0, .int .i64 0, .slice none 0 0, .slice none 0 0, .int .i64 0, .int .i64 0, .int .i64 0, .slice none 0 0, .slice none 0 0, .int .i64 0, .int .i64 0]) (by kernel_rfl) (fun w42 HS => ?_)
  dsimp only [List.set] at HS
  refine dn_ hK22 ?_
  clear hK22
  refine sr_ fun _ hK43 => ?_
  refine v_ (fa_ Try.underlying44) ?_
  exact by (
  obtain ⟨A44, c45, hc46, le47, HS⟩ := HS.sO 3 rfl at44_7
  obtain ⟨A48, c49, hc50, le51, HS⟩ := HS.sO 4 rfl at44_8
  refine v_ (ls_ (HS.mu 2 rfl) Try.underlying27 (part_cons (at44_6 (HS.aO 5 rfl)).int (part_cons hc46 (part_cons hc50 (part_cons (at44_9 (HS.aO 5 rfl)).int (part_cons (at44_10 (HS.aO 5 rfl)).int part_nil)))))) ?_
  obtain ⟨t52, ha53, H⟩ := bind_some H
  refine c_ Try.func53 (laws_toMatrix.runs k x0.f2 A44 c45 A48 c49 t52 _ (HS.getO 1 rfl) le47 (HS.getO 0 rfl) le51 ha53) ?_
  clear ha53
  rintro _ w54 ⟨A55, c56, A59, c60, rfl, le57, hf58, le61, hf62, hb⟩
  replace HS := HS.newNs hb (foot_cons hf58 (foot_cons hf62 foot_nil))
  exact by (
  refine ⟨_, rfl, ?_⟩
  clear hb
  refine v_ (fa_ Try.underlying48) ?_
  refine WL.storeS HS 0 rfl rfl rfl rfl rfl rfl (oneL rfl) (by kernel_rfl) (Nat.le_of_ble_eq_true rfl) (cs' := #[.slice A17 t14.length c18, .int .i64 t31.f0, .slice A34 t31.f1.length c35, .slice A38 t31.f2.length c39, .int .i64 t31.f3, .int .i64 t31.f4, .int .i64 t52.f0, .slice A55 t52.f1.length c56, .slice A59 t52.f2.length c60, .int .i64 t52.f3, .int .i64 t52.f4, .int .i64 0, .slice none 0 0, .slice none 0 0, .int .i64 0, .int .i64 0, .int .i64 0, .slice none 0 0, .slice none 0 0, .int .i64 0, .int .i64 0, .slice none 0 0, .int .i64 0, .slice none 0 0, .slice none 0 0, .int .i64 0, .int .i64 0, .int .i64 0, .slice none 0 0, .slice none 0 0, .int .i64 0, .int .i64 0]) (by kernel_rfl) (fun w63 HS => ?_)
  dsimp only [List.set] at HS
  refine dn_ hK43 ?_
  clear hK43
  refine sr_ fun _ hK64 => ?_
  exact by (
  refine v_ (fa_ Try.underlying44) ?_
  obtain ⟨A65, c66, hc67, le68, HS⟩ := HS.sO 5 rfl at44_12
  obtain ⟨A69, c70, hc71, le72, HS⟩ := HS.sO 6 rfl at44_13
  refine v_ (ls_ (HS.mu 2 rfl) Try.underlying27 (part_cons (at44_11 (HS.aO 7 rfl)).int (part_cons hc67 (part_cons hc71 (part_cons (at44_14 (HS.aO 7 rfl)).int (part_cons (at44_15 (HS.aO 7 rfl)).int part_nil)))))) ?_
  obtain ⟨t73, ha74, H⟩ := bind_some H
  refine c_ Try.func53 (laws_toMatrix.runs k x0.f3 A65 c66 A69 c70 t73 _ (HS.getO 1 rfl) le68 (HS.getO 0 rfl) le72 ha74) ?_
  clear ha74
  rintro _ w75 ⟨A76, c77, A80, c81, rfl, le78, hf79, le82, hf83, hb⟩
  exact by (
  replace HS := HS.newNs hb (foot_cons hf79 (foot_cons hf83 foot_nil))
  refine ⟨_, rfl, ?_⟩
  clear hb
  refine v_ (fa_ Try.underlying48) ?_
  refine WL.storeS HS 0 rfl rfl rfl rfl rfl rfl (oneL rfl) (by kernel_rfl) (Nat.le_of_ble_eq_true rfl) (cs' := #[.slice A17 t14.length c18, .int .i64 t31.f0, .slice A34 t31.f1.length c35, .slice A38 t31.f2.length c39, .int .i64 t31.f3, .int .i64 t31.f4, .int .i64 t52.f0, .slice A55 t52.f1.length c56, .slice A59 t52.f2.length c60, .int .i64 t52.f3, .int .i64 t52.f4, .int .i64 t73.f0, .slice A76 t73.f1.length c77, .slice A80 t73.f2.length c81, .int .i64 t73.f3, .int .i64 t73.f4, .int .i64 0, .slice none 0 0, .slice none 0 0, .int .i64 0, .int .i64 0, .slice none 0 0, .int .i64 0, .slice none 0 0, .slice none 0 0, .int .i64 0, .int .i64 0, .int .i64 0, .slice none 0 0, .slice none 0 0, .int .i64 0, .int .i64 0]) (by kernel_rfl) (fun w84 HS => ?_)
  dsimp only [List.set] at HS
  refine dn_ hK64 ?_
  clear hK64
  exact by (
  refine sr_ fun _ hK85 => ?_
  refine v_ (fa_ Try.underlying44) ?_
  obtain ⟨A86, c87, hc88, le89, HS⟩ := HS.sO 7 rfl at44_17
  obtain ⟨A90, c91, hc92, le93, HS⟩ := HS.sO 8 rfl at44_18
  refine v_ (ls_ (HS.mu 2 rfl) Try.underlying27 (part_cons (at44_16 (HS.aO 9 rfl)).int (part_cons hc88 (part_cons hc92 (part_cons (at44_19 (HS.aO 9 rfl)).int (part_cons (at44_20 (HS.aO 9 rfl)).int part_nil)))))) ?_
  obtain ⟨t94, ha95, H⟩ := bind_some H
  refine c_ Try.func53 (laws_toMatrix.runs k x0.f4 A86 c87 A90 c91 t94 _ (HS.getO 1 rfl) le89 (HS.getO 0 rfl) le93 ha95) ?_
  clear ha95
  exact by (
  rintro _ w96 ⟨A97, c98, A101, c102, rfl, le99, hf100, le103, hf104, hb⟩
  replace HS := HS.newNs hb (foot_cons hf100 (foot_cons hf104 foot_nil))
  refine ⟨_, rfl, ?_⟩
  clear hb
  refine v_ (fa_ Try.underlying48) ?_
  refine WL.storeS HS 0 rfl rfl rfl rfl rfl rfl (oneL rfl) (by kernel_rfl) (Nat.le_of_ble_eq_true rfl) (cs' := #[.slice A17 t14.length c18, .int .i64 t31.f0, .slice A34 t31.f1.length c35, .slice A38 t31.f2.length c39, .int .i64 t31.f3, .int .i64 t31.f4, .int .i64 t52.f0, .slice A55 t52.f1.length c56, .slice A59 t52.f2.length c60, .int .i64 t52.f3, .int .i64 t52.f4, .int .i64 t73.f0, .slice A76 t73.f1.length c77, .slice A80 t73.f2.length c81, .int .i64 t73.f3, .int .i64 t73.f4, .int .i64 t94.f0, .slice A97 t94.f1.length c98, .slice A101 t94.f2.length c102, .int .i64 t94.f3, .int .i64 t94.f4, .slice none 0 0, .int .i64 0, .slice none 0 0, .slice none 0 0, .int .i64 0, .int .i64 0, .int .i64 0, .slice none 0 0, .slice none 0 0, .int .i64 0, .int .i64 0]) (by kernel_rfl) (fun w105 HS => ?_)
  dsimp only [List.set] at HS
  refine dn_ hK85 ?_
  exact by (
  clear hK85
  refine sr_ fun _ hK106 => ?_
  refine v_ (fa_ Try.underlying44) ?_
  obtain ⟨A107, c108, hc109, le110, HS⟩ := HS.sO 9 rfl at44_21
  refine v_ (lb_ (HS.mu 2 rfl) Try.underlying25 hc109) ?_
  obtain ⟨t111, ha112, H⟩ := bind_some H
  refine c_ Try.func52 (laws_toIntS.runs k A107 c108 x0.f5 t111 _ (HS.getO 0 rfl) le110 ha112) ?_
  clear ha112
  exact by (
  rintro _ w113 ⟨A114, c115, rfl, le116, hf117, hb⟩
  replace HS := HS.newNs hb (foot_cons hf117 foot_nil)
  refine ⟨_, rfl, ?_⟩
  clear hb
  refine v_ (fa_ Try.underlying48) ?_
  refine WL.store HS 0 rfl rfl rfl rfl rfl rfl rfl (by kernel_rfl) (Nat.le_of_ble_eq_true rfl) (cs' := #[.slice A17 t14.length c18, .int .i64 t31.f0, .slice A34 t31.f1.length c35, .slice A38 t31.f2.length c39, .int .i64 t31.f3, .int .i64 t31.f4, .int .i64 t52.f0, .slice A55 t52.f1.length c56, .slice A59 t52.f2.length c60, .int .i64 t52.f3, .int .i64 t52.f4, .int .i64 t73.f0, .slice A76 t73.f1.length c77, .slice A80 t73.f2.length c81, .int .i64 t73.f3, .int .i64 t73.f4, .int .i64 t94.f0, .slice A97 t94.f1.length c98, .slice A101 t94.f2.length c102, .int .i64 t94.f3, .int .i64 t94.f4, .slice A114 t111.length c115, .int .i64 0, .slice none 0 0, .slice none 0 0, .int .i64 0, .int .i64 0, .int .i64 0, .slice none 0 0, .slice none 0 0, .int .i64 0, .int .i64 0]) (by kernel_rfl) (fun w118 HS => ?_)
  dsimp only [List.set] at HS
  refine dn_ hK106 ?_
  exact by (
  clear hK106
  refine sr_ fun _ hK119 => ?_
  refine v_ (fa_ Try.underlying44) ?_
  obtain ⟨A120, c121, hc122, le123, HS⟩ := HS.sO 10 rfl at44_23
  obtain ⟨A124, c125, hc126, le127, HS⟩ := HS.sO 11 rfl at44_24
  refine v_ (ls_ (HS.mu 2 rfl) Try.underlying27 (part_cons (at44_22 (HS.aO 12 rfl)).int (part_cons hc122 (part_cons hc126 (part_cons (at44_25 (HS.aO 12 rfl)).int (part_cons (at44_26 (HS.aO 12 rfl)).int part_nil)))))) ?_
  obtain ⟨t128, ha129, H⟩ := bind_some H
  refine c_ Try.func53 (laws_toMatrix.runs k x0.f6 A120 c121 A124 c125 t128 _ (HS.getO 1 rfl) le123 (HS.getO 0 rfl) le127 ha129) ?_
  exact by (
  clear ha129
  rintro _ w130 ⟨A131, c132, A135, c136, rfl, le133, hf134, le137, hf138, hb⟩
  replace HS := HS.newNs hb (foot_cons hf134 (foot_cons hf138 foot_nil))
  refine ⟨_, rfl, ?_⟩
  clear hb
  refine v_ (fa_ Try.underlying48) ?_
  refine WL.storeS HS 0 rfl rfl rfl rfl rfl rfl (oneL rfl) (by kernel_rfl) (Nat.le_of_ble_eq_true rfl) (cs' := #[.slice A17 t14.length c18, .int .i64 t31.f0, .slice A34 t31.f1.length c35, .slice A38 t31.f2.length c39, .int .i64 t31.f3, .int .i64 t31.f4, .int .i64 t52.f0, .slice A55 t52.f1.length c56, .slice A59 t52.f2.length c60, .int .i64 t52.f3, .int .i64 t52.f4, .int .i64 t73.f0, .slice A76 t73.f1.length c77, .slice A80 t73.f2.length c81, .int .i64 t73.f3, .int .i64 t73.f4, .int .i64 t94.f0, .slice A97 t94.f1.length c98, .slice A101 t94.f2.length c102, .int .i64 t94.f3, .int .i64 t94.f4, .slice A114 t111.length c115, .int .i64 t128.f0, .slice A131 t128.f1.length c132, .slice A135 t128.f2.length c136, .int .i64 t128.f3, .int .i64 t128.f4, .int .i64 0, .slice none 0 0, .slice none 0 0, .int .i64 0, .int .i64 0]) (by kernel_rfl) (fun w139 HS => ?_)
  dsimp only [List.set] at HS
  exact by (
  refine dn_ hK119 ?_
  clear hK119
  refine sr_ fun _ hK140 => ?_
  refine v_ (fa_ Try.underlying44) ?_
  obtain ⟨A141, c142, hc143, le144, HS⟩ := HS.sO 12 rfl at44_28
  obtain ⟨A145, c146, hc147, le148, HS⟩ := HS.sO 13 rfl at44_29
  refine v_ (ls_ (HS.mu 2 rfl) Try.underlying27 (part_cons (at44_27 (HS.aO 14 rfl)).int (part_cons hc143 (part_cons hc147 (part_cons (at44_30 (HS.aO 14 rfl)).int (part_cons (at44_31 (HS.aO 14 rfl)).int part_nil)))))) ?_
  obtain ⟨t149, ha150, H⟩ := bind_some H
  exact by (
  refine c_ Try.func53 (laws_toMatrix.runs k x0.f7 A141 c142 A145 c146 t149 _ (HS.getO 1 rfl) le144 (HS.getO 0 rfl) le148 ha150) ?_
  clear ha150
  rintro _ w151 ⟨A152, c153, A156, c157, rfl, le154, hf155, le158, hf159, hb⟩
  replace HS := HS.newNs hb (foot_cons hf155 (foot_cons hf159 foot_nil))
  refine ⟨_, rfl, ?_⟩
  clear hb
  refine v_ (fa_ Try.underlying48) ?_
  refine WL.storeS HS 0 rfl rfl rfl rfl rfl rfl (oneL rfl) (by kernel_rfl) (Nat.le_of_ble_eq_true rfl) (cs' := #[.slice A17 t14.length c18, .int .i64 t31.f0, .slice A34 t31.f1.length c35, .slice A38 t31.f2.length c39, .int .i64 t31.f3, .int .i64 t31.f4, .int .i64 t52.f0, .slice A55 t52.f1.length c56, .slice A59 t52.f2.length c60, .int .i64 t52.f3, .int .i64 t52.f4, .int .i64 t73.f0, .slice A76 t73.f1.length c77, .slice A80 t73.f2.length c81, .int .i64 t73.f3, .int .i64 t73.f4, .int .i64 t94.f0, .slice A97 t94.f1.length c98, .slice A101 t94.f2.length c102, .int .i64 t94.f3, .int .i64 t94.f4, .slice A114 t111.length c115, .int .i64 t128.f0, .slice A131 t128.f1.length c132, .slice A135 t128.f2.length c136, .int .i64 t128.f3, .int .i64 t128.f4, .int .i64 t149.f0, .slice A152 t149.f1.length c153, .slice A156 t149.f2.length c157, .int .i64 t149.f3, .int .i64 t149.f4]) (by kernel_rfl) (fun w160 HS => ?_)
  exact by (
  dsimp only [List.set] at HS
  refine dn_ hK140 ?_
  clear hK140
  refine sr_ fun _ hK161 => ?_
  refine v_ (ls_ (HS.mu 0 rfl) Try.underlying48 part_all) ?_
  refine WL.storeW HS 1 rfl rfl rfl rfl rfl rfl (oneL rfl) (by kernel_rfl) rfl (fun w162 HS => ?_)
  dsimp only [List.set] at HS
  refine dn_ hK161 ?_
  exact by (
  clear hK161
  refine WC.ret ?_
  replace HS := HS.deriveN (p := (kF k48 (⟨t14, (⟨t31.f0, t31.f1, t31.f2, t31.f3, t31.f4⟩ : S36), (⟨t52.f0, t52.f1, t52.f2, t52.f3, t52.f4⟩ : S36), (⟨t73.f0, t73.f1, t73.f2, t73.f3, t73.f4⟩ : S36), (⟨t94.f0, t94.f1, t94.f2, t94.f3, t94.f4⟩ : S36), t111, (⟨t128.f0, t128.f1, t128.f2, t128.f3, t128.f4⟩ : S36), (⟨t149.f0, t149.f1, t149.f2, t149.f3, t149.f4⟩ : S36)⟩ : S48) [.slice A17 t14.length c18, .int .i64 t31.f0, .slice A34 t31.f1.length c35, .slice A38 t31.f2.length c39, .int .i64 t31.f3, .int .i64 t31.f4, .int .i64 t52.f0, .slice A55 t52.f1.length c56, .slice A59 t52.f2.length c60, .int .i64 t52.f3, .int .i64 t52.f4, .int .i64 t73.f0, .slice A76 t73.f1.length c77, .slice A80 t73.f2.length c81, .int .i64 t73.f3, .int .i64 t73.f4, .int .i64 t94.f0, .slice A97 t94.f1.length c98, .slice A101 t94.f2.length c102, .int .i64 t94.f3, .int .i64 t94.f4, .slice A114 t111.length c115, .int .i64 t128.f0, .slice A131 t128.f1.length c132, .slice A135 t128.f2.length c136, .int .i64 t128.f3, .int .i64 t128.f4, .int .i64 t149.f0, .slice A152 t149.f1.length c153, .slice A156 t149.f2.length c157, .int .i64 t149.f3, .int .i64 t149.f4])) (fun W_ hN_ => (k48_mk _ (⟨t14, (⟨t31.f0, t31.f1, t31.f2, t31.f3, t31.f4⟩ : S36), (⟨t52.f0, t52.f1, t52.f2, t52.f3, t52.f4⟩ : S36), (⟨t73.f0, t73.f1, t73.f2, t73.f3, t73.f4⟩ : S36), (⟨t94.f0, t94.f1, t94.f2, t94.f3, t94.f4⟩ : S36), t111, (⟨t128.f0, t128.f1, t128.f2, t128.f3, t128.f4⟩ : S36), (⟨t149.f0, t149.f1, t149.f2, t149.f3, t149.f4⟩ : S36)⟩ : S48) (le19) hN_.2.2.2.2.2.2.2.2.2.2.2.2.2.1 (le36) hN_.2.2.2.2.2.2.2.2.2.2.2.1 (le40) hN_.2.2.2.2.2.2.2.2.2.2.2.2.1 (le57) hN_.2.2.2.2.2.2.2.2.2.1 (le61) hN_.2.2.2.2.2.2.2.2.2.2.1 (le78) hN_.2.2.2.2.2.2.2.1 (le82) hN_.2.2.2.2.2.2.2.2.1 (le99) hN_.2.2.2.2.2.1 (le103) hN_.2.2.2.2.2.2.1 (le116) hN_.2.2.2.2.1 (le133) hN_.2.2.1 (le137) hN_.2.2.2.1 (le154) hN_.1 (le158) hN_.2.1))
  obtain rfl := os H
  exact fin1 Try.f21 rfl ⟨_, rfl, resv_box (HS.mu 1 rfl) Try.underlying48 rfl (by kernel_rfl)⟩ hR_ ⟨_, rfl, (foot_fresh (HS.footN 0 rfl)), HS.b⟩ )))))))))))))))))))
def laws_toLayerS.b0 (l0 : List S44) (rec_ : Int → (List S48) → Option (Int × (List S48))) (k28 : Nat) (i15 : Int) (xs16 : List S48) : Option (Int × (List S48)) := (if i15 < (l0.length : Int) then (if 0 ≤ i15 ∧ i15 < (l0.length : Int) then ((laws_toLayer.g k28 (l0.getD i15.toNat o44)).bind fun t38 => (if 0 ≤ i15 ∧ i15 < ((xs16.length : Nat) : Int) then (rec_ (wrap64 (i15 + 1)) (xs16.set i15.toNat t38)) else none)) else none) else (some (i15, xs16)))
def laws_toLayerS.l0 (l0 : List S44) : Nat → Int → (List S48) → Option (Int × (List S48))
  | 0, _, _ => none
  | k + 1, i15, xs16 => laws_toLayerS.b0 l0 (laws_toLayerS.l0 l0 k) k i15 xs16
def laws_toLayerS.g (k : Nat) (l0 : List S44) : Option (List S48) := (if 0 ≤ (l0.length : Int) ∧ (l0.length : Int) < 4294967296 then ((laws_toLayerS.l0 l0 k 0 (List.replicate (l0.length : Int).toNat o48)).bind (fun oc26 => (some oc26.2))) else none)
theorem laws_toLayerS.runs (k : Nat) (A0 : Option Addr) (c0 : Nat) (l0 : List S44) (r : List S48) (w : World) (hr0 : k44.C w A0 l0.length l0) (hc0 : l0.length ≤ c0) (H : laws_toLayerS.g k l0 = some r) :
    Calls Try.prog 51 #[.slice A0 l0.length c0] w fun e w' => ∃ (A0_ : Option Addr) (c0_ : Nat), e = .returned (.slice A0_ r.length c0_) ∧ r.length ≤ c0_ ∧ Foot (cF k48 A0_ r) w' (fun k_ => w.heap.size ≤ k_) ∧ Below w.heap.size w w' := by
  unfold laws_toLayerS.g at H
  have HS : St (fun _ => True) w w [] [(cF k44 A0 l0)] [] := St.start (foot_cons (foot_C h44 hr0) foot_nil)
  refine cw_ (n := 23) Try.func51 fun R_ hR_ => ?_
  refine sr_ fun _ hK1 => ?_
  refine as_ ?_
  refine dn_ hK1 ?_
  refine sr_ fun _ hK2 => ?_
  refine mv_ ?_
  refine ln_ Try.underlying24 ?_
  obtain ⟨⟨q3, q4⟩, H⟩ := if_some H
  refine WL.make k48 HS rfl rfl (by decide) rfl rfl rfl (.agg #[.slice none 0 0, .int .i64 0, .slice none 0 0, .slice none 0 0, .int .i64 0, .int .i64 0, .int .i64 0, .slice none 0 0, .slice none 0 0, .int .i64 0, .int .i64 0, .int .i64 0, .slice none 0 0, .slice none 0 0, .int .i64 0, .int .i64 0, .int .i64 0, .slice none 0 0, .slice none 0 0, .int .i64 0, .int .i64 0, .slice none 0 0, .int .i64 0, .slice none 0 0, .slice none 0 0, .int .i64 0, .int .i64 0, .int .i64 0, .slice none 0 0, .slice none 0 0, .int .i64 0, .int .i64 0]) 480 o48 Try.underlying35 (by kernel_rfl) rfl (by decide) (by decide) (fun _ => (k48_mk _ o48 (Nat.le_refl _) (Kd.C_nil _ _) (Nat.le_refl _) (Kd.C_nil _ _) (Nat.le_refl _) (Kd.C_nil _ _) (Nat.le_refl _) (Kd.C_nil _ _) (Nat.le_refl _) (Kd.C_nil _ _) (Nat.le_refl _) (Kd.C_nil _ _) (Nat.le_refl _) (Kd.C_nil _ _) (Nat.le_refl _) (Kd.C_nil _ _) (Nat.le_refl _) (Kd.C_nil _ _) (Nat.le_refl _) (Kd.C_nil _ _) (Nat.le_refl _) (Kd.C_nil _ _) (Nat.le_refl _) (Kd.C_nil _ _) (Nat.le_refl _) (Kd.C_nil _ _) (Nat.le_refl _) (Kd.C_nil _ _))) q3 (by omega) (fun v5 w6 I7 hI8 HS => ?_)
  replace HS := HS.deriveN (p := (rF k48 (List.replicate (l0.length : Int).toNat o48) I7)) (fun W_ hN_ => hI8 W_)
  refine as_ ?_
  refine dn_ hK2 ?_
  refine WC.seq fun K9 hK9 => ?_
  refine sr_ fun _ hK10 => ?_
  refine as_ ?_
  refine dn_ hK10 ?_
  refine WC.block ?_
  obtain ⟨G11, hG12, oc13, H, Ho14⟩ := open_G H
  let J19 := fun (i15 : Int) (xs16 : List S48) (v17 : Value) (I18 : List Value) (E_ : Env) (W_ : World) => E_ = [(0, .slice A0 l0.length c0), (3, v17), (4, .int .i64 i15)] ∧ St (fun _ => True) w W_ [rowM w.heap.size 48 32 v17 xs16.length I18] [(cF k44 A0 l0)] [(rF k48 xs16 I18)]
  have X20 : ∀ E_ W_, (∃ i15 xs16 v17 I18, G11 (i15, xs16) = some r ∧ J19 i15 xs16 v17 I18 E_ W_) → ∀ a, Fits a 23 E_ → K9 a W_ := by
    rintro E_ w21 ⟨i15, xs16, v17, I18, H, rfl, HS⟩
    rw [hG12] at H
    (try dsimp only at H)
    refine hK9 _ _ ?_
    refine sr_ fun _ hK22 => ?_
    refine mv_ ?_
    refine as_ ?_
    refine dn_ hK22 ?_
    refine WC.ret ?_
    obtain ⟨A23, c24, rfl⟩ := row_slice (HS.mu 0 rfl)
    have le25 := row_le (HS.mu 0 rfl)
    replace HS := HS.freezeN 0 (p := (cF k48 A23 (xs16))) rfl (fun W_ hm_ h_ => row_C (by rfl) hm_ h_.1)
    dsimp only [List.eraseIdx] at HS
    obtain rfl := os H
    exact fin1 Try.f51 rfl rfl hR_ ⟨_, _, rfl, le25, (foot_fresh (HS.footN 0 rfl)), HS.b⟩
  refine WC.loop (fun k_ E_ W_ => ∃ i15 xs16 v17 I18, (∃ o_, laws_toLayerS.l0 l0 k_ i15 xs16 = some o_ ∧ G11 o_ = some r) ∧ J19 i15 xs16 v17 I18 E_ W_) k ⟨0, (List.replicate (l0.length : Int).toNat o48), v5, I7, ⟨_, H, Ho14⟩, rfl, HS⟩ (sb rfl) ?_
  rintro k_ E_ w27 ⟨i15, xs16, v17, I18, ⟨oc13, H, Ho14⟩, rfl, HS⟩
  rcases k_ with _ | k28
  · exact no_ H
  replace H : laws_toLayerS.b0 l0 (laws_toLayerS.l0 l0 k28) k28 i15 xs16 = some oc13 := H
  unfold laws_toLayerS.b0 at H
  refine WC.seq fun _ hK29 => ?_
  refine sr_ fun _ hK30 => ?_
  refine mv_ ?_
  refine mv_ ?_
  refine ln_ Try.underlying24 ?_
  refine b_ bin_lss ?_
  refine dn_ hK30 ?_
  rcases eti_ H with ⟨c31, H⟩ | ⟨c31, H⟩
  · refine wn_ (dF c31) ?_
    refine WC.exit ?_
    obtain rfl := os H
    exact WQ.via2 (fun _ _ h_ => h_) X20 ⟨i15, xs16, v17, I18, Ho14, rfl, HS⟩ (sb rfl)
  refine wy_ (dT c31) ?_
  refine WC.skip ?_
  refine via_ hK29 ?_
  refine WC.seq fun _ hK32 => ?_
  refine WC.block ?_
  refine rg_ ?_
  refine mv_ ?_
  refine mv_ ?_
  refine mv_ ?_
  refine mv_ ?_
  obtain ⟨⟨q33, q34⟩, H⟩ := if_some H
  obtain ⟨ad35, rfl⟩ := C_open (HS.getO 0 rfl) (by omega)
  refine v_ (ia_ Try.underlying24 32 q33 q34) ?_
  obtain ⟨e36, el37, HS⟩ := HS.elO 0 rfl (by decide) o44 i15 q33 q34
  replace HS := HS.deriveO (p := (kF k44 (l0.getD i15.toNat o44) e36)) (fun W_ hO_ hN_ => hO_.1.1)
  refine v_ (Run.loadS (cs := e36) rfl rfl Try.underlying44 rfl (by rw [el37]; kernel_rfl) (HS.getO 1 rfl).2) ?_
  obtain ⟨t38, ha39, H⟩ := bind_some H
  refine c_ Try.func21 (laws_toLayer.runs k28 e36 (l0.getD i15.toNat o44) t38 _ (HS.getO 0 rfl) ha39) ?_
  clear ha39
  rintro _ w40 ⟨cs41, rfl, hf42, hb⟩
  replace HS := HS.newNs hb (foot_cons hf42 foot_nil)
  have el43 : cs41.length = 32 := k48.K_len (Foot.now hf42)
  refine ⟨_, rfl, ?_⟩
  clear hb
  obtain ⟨⟨q44, q45⟩, H⟩ := if_some H
  obtain ⟨A46, c47, rfl⟩ := row_slice (HS.mu 0 rfl)
  obtain ⟨ad48, rfl⟩ := row_open (HS.mu 0 rfl) (by omega)
  refine v_ (ia_ Try.underlying35 32 q44 q45) ?_
  have hk_ := mul_room q44 q45 32
  refine WL.putEl HS 0 rfl rfl rfl rfl rfl rfl cs41 rfl (Kd.K_one _ (HS.getN 0 rfl)) (by rw [el43]; kernel_rfl) (by first | omega | (rw [el43]; omega) | (simp; omega)) (fun w49 I50 hI51 HS => ?_)
  dsimp only [List.set] at HS
  clear hk_
  replace HS := HS.deriveN (p := (rF k48 (xs16.set i15.toNat t38) I50)) (fun W_ hN_ => reps_set hI51 hN_.2.1 hN_.1 (toNat_lt q44 q45))
  replace HS := HS.rowN 0 rfl (show xs16.length = (xs16.set i15.toNat t38).length from (List.length_set ..).symm)
  dsimp only [List.set] at HS
  refine dn_ hK32 ?_
  refine rg_ ?_
  refine mv_ ?_
  refine b_ bin_add64 ?_
  refine as_ ?_
  refine WL.done ?_
  exact WQ.round k28 (fun _ _ h_ => h_) (Nat.lt_succ_self _) ⟨(wrap64 (i15 + 1)), (xs16.set i15.toNat t38), (.slice (some ad48) xs16.length c47), I50, ⟨_, H, Ho14⟩, rfl, (St.pk HS [2] [0] rfl rfl)⟩ (sb rfl)
def laws_toModel.g (k : Nat) (x0 : S31) : Option S39 := ((laws_toMergeS.g k x0.f3).bind fun t20 => ((laws_toIntSS.g k x0.f4).bind fun t33 => ((laws_toLayerS.g k x0.f5).bind fun t46 => ((laws_toIntS.g k x0.f6).bind fun t59 => ((laws_toMatrix.g k x0.f7).bind fun t76 => ((laws_toTurns.g k x0.f8).bind fun t97 => (some (⟨x0.f0, x0.f1, x0.f2, t20, t33, t46, t59, (⟨t76.f0, t76.f1, t76.f2, t76.f3, t76.f4⟩ : S36), (⟨t97.f0, t97.f1⟩ : S37)⟩ : S39))))))))
theorem laws_toModel.runs (k : Nat) (cs0 : List Value) (x0 : S31) (r : S39) (w : World) (hk0 : k31.K w x0 cs0) (H : laws_toModel.g k x0 = some r) :
    Calls Try.prog 16 #[.agg cs0.toArray] w fun e w' => ∃ (cs0_ : List Value), e = .returned (.agg cs0_.toArray) ∧ Foot (kF k39 r cs0_) w' (fun k_ => w.heap.size ≤ k_) ∧ Below w.heap.size w w' := by
  have el0 : cs0.length = 14 := k31.K_len hk0
  unfold laws_toModel.g at H
  have HS : St (fun _ => True) w w [] [(kF k31 x0 cs0)] [] := St.start (foot_cons (foot_K h31 hk0) foot_nil)
  refine cw_ (n := 38) Try.func16 fun R_ hR_ => ?_
  refine sr_ fun _ hK1 => ?_
  refine bo_ HS (fun b2 w3 hb2 HS => ?_)
  refine WL.alloc HS (v := .agg #[.int .i64 0, .int .i64 0, .int .i64 0, .slice none 0 0, .slice none 0 0, .slice none 0 0, .slice none 0 0, .int .i64 0, .slice none 0 0, .slice none 0 0, .int .i64 0, .int .i64 0, .slice none 0 0, .slice none 0 0]) (cs := #[.int .i64 0, .int .i64 0, .int .i64 0, .slice none 0 0, .slice none 0 0, .slice none 0 0, .slice none 0 0, .int .i64 0, .slice none 0 0, .slice none 0 0, .int .i64 0, .int .i64 0, .slice none 0 0, .slice none 0 0]) rfl rfl (by decide) rfl (by kernel_rfl) rfl (fun b4 w5 hb4 HS => ?_)
  refine dn_ hK1 ?_
  refine sr_ fun _ hK6 => ?_
  refine WL.alloc HS (v := .agg #[.int .i64 0, .int .i64 0, .int .i64 0, .slice none 0 0, .slice none 0 0, .slice none 0 0, .slice none 0 0, .int .i64 0, .slice none 0 0, .slice none 0 0, .int .i64 0, .int .i64 0, .slice none 0 0, .slice none 0 0]) (cs := #[.int .i64 0, .int .i64 0, .int .i64 0, .slice none 0 0, .slice none 0 0, .slice none 0 0, .slice none 0 0, .int .i64 0, .slice none 0 0, .slice none 0 0, .int .i64 0, .int .i64 0, .slice none 0 0, .slice none 0 0]) rfl rfl (by decide) rfl (by kernel_rfl) rfl (fun b7 w8 hb7 HS => ?_)
  refine dn_ hK6 ?_
  refine sr_ fun _ hK9 => ?_
  refine v_ (fa_ Try.underlying31) ?_
  refine v_ (lb_ (HS.mu 2 rfl) Try.underlying3 (at31_0 (HS.aO 0 rfl)).int) ?_
  refine v_ (fa_ Try.underlying39) ?_
  refine WL.store HS 0 rfl rfl rfl rfl rfl rfl rfl (by kernel_rfl) (Nat.le_of_ble_eq_true rfl) (cs' := #[.int .i64 x0.f0, .int .i64 0, .int .i64 0, .slice none 0 0, .slice none 0 0, .slice none 0 0, .slice none 0 0, .int .i64 0, .slice none 0 0, .slice none 0 0, .int .i64 0, .int .i64 0, .slice none 0 0, .slice none 0 0]) (by kernel_rfl) (fun w10 HS => ?_)
  dsimp only [List.set] at HS
  refine dn_ hK9 ?_
  refine sr_ fun _ hK11 => ?_
  refine v_ (fa_ Try.underlying31) ?_
  refine v_ (lb_ (HS.mu 2 rfl) Try.underlying3 (at31_1 (HS.aO 0 rfl)).int) ?_
  refine v_ (fa_ Try.underlying39) ?_
  refine WL.store HS 0 rfl rfl rfl rfl rfl rfl rfl (by kernel_rfl) (Nat.le_of_ble_eq_true rfl) (cs' := #[.int .i64 x0.f0, .int .i64 x0.f1, .int .i64 0, .slice none 0 0, .slice none 0 0, .slice none 0 0, .slice none 0 0, .int .i64 0, .slice none 0 0, .slice none 0 0, .int .i64 0, .int .i64 0, .slice none 0 0, .slice none 0 0]) (by kernel_rfl) (fun w12 HS => ?_)
  dsimp only [List.set] at HS
  refine dn_ hK11 ?_
  refine sr_ fun _ hK13 => ?_
  refine v_ (fa_ Try.underlying31) ?_
  refine v_ (lb_ (HS.mu 2 rfl) Try.underlying3 (at31_2 (HS.aO 0 rfl)).int) ?_
  refine v_ (fa_ Try.underlying39) ?_
  refine WL.store HS 0 rfl rfl rfl rfl rfl rfl rfl (by kernel_rfl) (Nat.le_of_ble_eq_true rfl) (cs' := #[.int .i64 x0.f0, .int .i64 x0.f1, .int .i64 x0.f2, .slice none 0 0, .slice none 0 0, .slice none 0 0, .slice none 0 0, .int .i64 0, .slice none 0 0, .slice none 0 0, .int .i64 0, .int .i64 0, .slice none 0 0, .slice none 0 0]) (by kernel_rfl) (fun w14 HS => ?_)
  dsimp only [List.set] at HS
  refine dn_ hK13 ?_
  refine sr_ fun _ hK15 => ?_
  refine v_ (fa_ Try.underlying31) ?_
  obtain ⟨A16, c17, hc18, le19, HS⟩ := HS.sO 0 rfl at31_3
  refine v_ (lb_ (HS.mu 2 rfl) Try.underlying22 hc18) ?_
  obtain ⟨t20, ha21, H⟩ := bind_some H
  refine c_ Try.func49 (laws_toMergeS.runs k A16 c17 x0.f3 t20 _ (HS.getO 0 rfl) le19 ha21) ?_
  clear ha21
  rintro _ w22 ⟨A23, c24, rfl, le25, hf26, hb⟩
  replace HS := HS.newNs hb (foot_cons hf26 foot_nil)
  refine ⟨_, rfl, ?_⟩
  clear hb
  refine v_ (fa_ Try.underlying39) ?_
  refine WL.store HS 0 rfl rfl rfl rfl rfl rfl rfl (by kernel_rfl) (Nat.le_of_ble_eq_true rfl) (cs' := #[.int .i64 x0.f0, .int .i64 x0.f1, .int .i64 x0.f2, .slice A23 t20.length c24, .slice none 0 0, .slice none 0 0, .slice none 0 0, .int .i64 0, .slice none 0 0, .slice none 0 0, .int .i64 0, .int .i64 0, .slice none 0 0, .slice none 0 0]) (by kernel_rfl) (fun w27 HS => ?_)
  dsimp only [List.set] at HS
  refine dn_ hK15 ?_
  refine sr_ fun _ hK28 => ?_
  refine v_ (fa_ Try.underlying31) ?_
  obtain ⟨A29, c30, hc31, le32, HS⟩ := HS.sO 1 rfl at31_4
  refine v_ (lb_ (HS.mu 2 rfl) Try.underlying23 hc31) ?_
  obtain ⟨t33, ha34, H⟩ := bind_some H
  refine c_ Try.func50 (laws_toIntSS.runs k A29 c30 x0.f4 t33 _ (HS.getO 0 rfl) le32 ha34) ?_
  clear ha34
  rintro _ w35 ⟨A36, c37, rfl, le38, hf39, hb⟩
  replace HS := HS.newNs hb (foot_cons hf39 foot_nil)
  refine ⟨_, rfl, ?_⟩
  clear hb
  refine v_ (fa_ Try.underlying39) ?_
  refine WL.store HS 0 rfl rfl rfl rfl rfl rfl rfl (by kernel_rfl) (Nat.le_of_ble_eq_true rfl) (cs' := #[.int .i64 x0.f0, .int .i64 x0.f1, .int .i64 x0.f2, .slice A23 t20.length c24, .slice A36 t33.length c37, .slice none 0 0, .slice none 0 0, .int .i64 0, .slice none 0 0, .slice none 0 0, .int .i64 0, .int .i64 0, .slice none 0 0, .slice none 0 0]) (by kernel_rfl) (fun w40 HS => ?_)
  dsimp only [List.set] at HS
  refine dn_ hK28 ?_
  refine sr_ fun _ hK41 => ?_
  refine v_ (fa_ Try.underlying31) ?_
  obtain ⟨A42, c43, hc44, le45, HS⟩ := HS.sO 2 rfl at31_5
  refine v_ (lb_ (HS.mu 2 rfl) Try.underlying24 hc44) ?_
  obtain ⟨t46, ha47, H⟩ := bind_some H
  refine c_ Try.func51 (laws_toLayerS.runs k A42 c43 x0.f5 t46 _ (HS.getO 0 rfl) le45 ha47) ?_
  clear ha47
  rintro _ w48 ⟨A49, c50, rfl, le51, hf52, hb⟩
  replace HS := HS.newNs hb (foot_cons hf52 foot_nil)
  refine ⟨_, rfl, ?_⟩
  clear hb
  refine v_ (fa_ Try.underlying39) ?_
  refine WL.store HS 0 rfl rfl rfl rfl rfl rfl rfl (by kernel_rfl) (Nat.le_of_ble_eq_true rfl) (cs' := #[.int .i64 x0.f0, .int .i64 x0.f1, .int .i64 x0.f2, .slice A23 t20.length c24, .slice A36 t33.length c37, .slice A49 t46.length c50, .slice none 0 0, .int .i64 0, .slice none 0 0, .slice none 0 0, .int .i64 0, .int .i64 0, .slice none 0 0, .slice none 0 0]) (by kernel_rfl) (fun w53 HS => ?_)
  dsimp only [List.set] at HS
  refine dn_ hK41 ?_
  refine sr_ fun _ hK54 => ?_
  refine v_ (fa_ Try.underlying31) ?_
  obtain ⟨A55, c56, hc57, le58, HS⟩ := HS.sO 3 rfl at31_6
  refine v_ (lb_ (HS.mu 2 rfl) Try.underlying25 hc57) ?_
  obtain ⟨t59, ha60, H⟩ := bind_some H
  refine c_ Try.func52 (laws_toIntS.runs k A55 c56 x0.f6 t59 _ (HS.getO 0 rfl) le58 ha60) ?_
  clear ha60
  rintro _ w61 ⟨A62, c63, rfl, le64, hf65, hb⟩
  replace HS := HS.newNs hb (foot_cons hf65 foot_nil)
  refine ⟨_, rfl, ?_⟩
  clear hb
  refine v_ (fa_ Try.underlying39) ?_
  refine WL.store HS 0 rfl rfl rfl rfl rfl rfl rfl (by kernel_rfl) (Nat.le_of_ble_eq_true rfl) (cs' := #[.int .i64 x0.f0, .int .i64 x0.f1, .int .i64 x0.f2, .slice A23 t20.length c24, .slice A36 t33.length c37, .slice A49 t46.length c50, .slice A62 t59.length c63, .int .i64 0, .slice none 0 0, .slice none 0 0, .int .i64 0, .int .i64 0, .slice none 0 0, .slice none 0 0]) (by kernel_rfl) (fun w66 HS => ?_)
  dsimp only [List.set] at HS
  refine dn_ hK54 ?_
  refine sr_ fun _ hK67 => ?_
  refine v_ (fa_ Try.underlying31) ?_
  obtain ⟨A68, c69, hc70, le71, HS⟩ := HS.sO 4 rfl at31_8
  obtain ⟨A72, c73, hc74, le75, HS⟩ := HS.sO 5 rfl at31_9
  refine v_ (ls_ (HS.mu 2 rfl) Try.underlying27 (part_cons (at31_7 (HS.aO 6 rfl)).int (part_cons hc70 (part_cons hc74 (part_cons (at31_10 (HS.aO 6 rfl)).int (part_cons (at31_11 (HS.aO 6 rfl)).int part_nil)))))) ?_
  obtain ⟨t76, ha77, H⟩ := bind_some H
  refine c_ Try.func53 (laws_toMatrix.runs k x0.f7 A68 c69 A72 c73 t76 _ (HS.getO 1 rfl) le71 (HS.getO 0 rfl) le75 ha77) ?_
  clear ha77
  rintro _ w78 ⟨A79, c80, A83, c84, rfl, le81, hf82, le85, hf86, hb⟩
  replace HS := HS.newNs hb (foot_cons hf82 (foot_cons hf86 foot_nil))
  refine ⟨_, rfl, ?_⟩
  clear hb
  refine v_ (fa_ Try.underlying39) ?_
  refine WL.storeS HS 0 rfl rfl rfl rfl rfl rfl (oneL rfl) (by kernel_rfl) (Nat.le_of_ble_eq_true rfl) (cs' := #[.int .i64 x0.f0, .int .i64 x0.f1, .int .i64 x0.f2, .slice A23 t20.length c24, .slice A36 t33.length c37, .slice A49 t46.length c50, .slice A62 t59.length c63, .int .i64 t76.f0, .slice A79 t76.f1.length c80, .slice A83 t76.f2.length c84, .int .i64 t76.f3, .int .i64 t76.f4, .slice none 0 0, .slice none 0 0]) (by kernel_rfl) (fun w87 HS => ?_)
  dsimp only [List.set] at HS
  refine dn_ hK67 ?_
  refine sr_ fun _ hK88 => ?_
  refine v_ (fa_ Try.underlying31) ?_
  obtain ⟨A89, c90, hc91, le92, HS⟩ := HS.sO 6 rfl at31_12
  obtain ⟨A93, c94, hc95, le96, HS⟩ := HS.sO 7 rfl at31_13
  refine v_ (ls_ (HS.mu 2 rfl) Try.underlying29 (part_cons hc91 (part_cons hc95 part_nil))) ?_
  obtain ⟨t97, ha98, H⟩ := bind_some H
  refine c_ Try.func54 (laws_toTurns.runs k x0.f8 A89 c90 A93 c94 t97 _ (HS.getO 1 rfl) le92 (HS.getO 0 rfl) le96 ha98) ?_
  clear ha98
  rintro _ w99 ⟨A100, c101, A104, c105, rfl, le102, hf103, le106, hf107, hb⟩
  replace HS := HS.newNs hb (foot_cons hf103 (foot_cons hf107 foot_nil))
  refine ⟨_, rfl, ?_⟩
  clear hb
  refine v_ (fa_ Try.underlying39) ?_
  refine WL.storeS HS 0 rfl rfl rfl rfl rfl rfl (oneL rfl) (by kernel_rfl) (Nat.le_of_ble_eq_true rfl) (cs' := #[.int .i64 x0.f0, .int .i64 x0.f1, .int .i64 x0.f2, .slice A23 t20.length c24, .slice A36 t33.length c37, .slice A49 t46.length c50, .slice A62 t59.length c63, .int .i64 t76.f0, .slice A79 t76.f1.length c80, .slice A83 t76.f2.length c84, .int .i64 t76.f3, .int .i64 t76.f4, .slice A100 t97.f0.length c101, .slice A104 t97.f1.length c105]) (by kernel_rfl) (fun w108 HS => ?_)
  dsimp only [List.set] at HS
  refine dn_ hK88 ?_
  refine sr_ fun _ hK109 => ?_
  refine v_ (ls_ (HS.mu 0 rfl) Try.underlying39 part_all) ?_
  refine WL.storeW HS 1 rfl rfl rfl rfl rfl rfl (oneL rfl) (by kernel_rfl) rfl (fun w110 HS => ?_)
  dsimp only [List.set] at HS
  refine dn_ hK109 ?_
  refine WC.ret ?_
  replace HS := HS.deriveN (p := (kF k39 (⟨x0.f0, x0.f1, x0.f2, t20, t33, t46, t59, (⟨t76.f0, t76.f1, t76.f2, t76.f3, t76.f4⟩ : S36), (⟨t97.f0, t97.f1⟩ : S37)⟩ : S39) [.int .i64 x0.f0, .int .i64 x0.f1, .int .i64 x0.f2, .slice A23 t20.length c24, .slice A36 t33.length c37, .slice A49 t46.length c50, .slice A62 t59.length c63, .int .i64 t76.f0, .slice A79 t76.f1.length c80, .slice A83 t76.f2.length c84, .int .i64 t76.f3, .int .i64 t76.f4, .slice A100 t97.f0.length c101, .slice A104 t97.f1.length c105])) (fun W_ hN_ => (k39_mk _ (⟨x0.f0, x0.f1, x0.f2, t20, t33, t46, t59, (⟨t76.f0, t76.f1, t76.f2, t76.f3, t76.f4⟩ : S36), (⟨t97.f0, t97.f1⟩ : S37)⟩ : S39) (le25) hN_.2.2.2.2.2.2.2.1 (le38) hN_.2.2.2.2.2.2.1 (le51) hN_.2.2.2.2.2.1 (le64) hN_.2.2.2.2.1 (le81) hN_.2.2.1 (le85) hN_.2.2.2.1 (le102) hN_.1 (le106) hN_.2.1))
  obtain rfl := os H
  exact fin1 Try.f16 rfl ⟨_, rfl, resv_box (HS.mu 1 rfl) Try.underlying39 rfl (by kernel_rfl)⟩ hR_ ⟨_, rfl, (foot_fresh (HS.footN 0 rfl)), HS.b⟩
def laws_eqLayer.g (k : Nat) (x0 : S48) (x1 : S48) : Option Bool := ((laws_eqIntS.g k x0.f0 x1.f0).bind fun t16 => (if t16 = true then ((laws_eqMatrix.g k x0.f1 x1.f1).bind fun t38 => (if t38 = true then ((laws_eqMatrix.g k x0.f2 x1.f2).bind fun t60 => (if t60 = true then ((laws_eqMatrix.g k x0.f3 x1.f3).bind fun t82 => (if t82 = true then ((laws_eqMatrix.g k x0.f4 x1.f4).bind fun t104 => (if t104 = true then ((laws_eqIntS.g k x0.f5 x1.f5).bind fun t118 => (if t118 = true then ((laws_eqMatrix.g k x0.f6 x1.f6).bind fun t140 => (if t140 = true then ((laws_eqMatrix.g k x0.f7 x1.f7).bind fun t162 => (if t162 = true then (some true) else (some false))) else (some false))) else (some false))) else (some false))) else (some false))) else (some false))) else (some false))) else (some false)))
theorem laws_eqLayer.runs (k : Nat) (cs0 : List Value) (x0 : S48) (cs1 : List Value) (x1 : S48) (r : Bool) (w : World) (hk0 : k48.K w x0 cs0) (hk1 : k48.K w x1 cs1) (H : laws_eqLayer.g k x0 x1 = some r) :
    Calls Try.prog 23 #[.agg cs0.toArray, .agg cs1.toArray] w fun e w' => e = .returned (.bool r) ∧ Below w.heap.size w w' := by
  have el0 : cs0.length = 32 := k48.K_len hk0
  have el1 : cs1.length = 32 := k48.K_len hk1
  unfold laws_eqLayer.g at H
  have HS : St (fun _ => True) w w [] [(kF k48 x0 cs0), (kF k48 x1 cs1)] [] := St.start (foot_cons (foot_K h48 hk0) (foot_cons (foot_K h48 hk1) foot_nil))
  refine cw_ (n := 53) Try.func23 fun R_ hR_ => ?_
  refine sr_ fun _ hK1 => ?_
  refine bo_ HS (fun b2 w3 hb2 HS => ?_)
  refine bo_ HS (fun b4 w5 hb4 HS => ?_)
  refine as_ ?_
  refine dn_ hK1 ?_
  refine WC.seq fun _ hK6 => ?_
  refine sr_ fun _ hK7 => ?_
  refine v_ (fa_ Try.underlying48) ?_
  obtain ⟨A8, c9, hc10, le11, HS⟩ := HS.sO 0 rfl at48_0
  refine v_ (lb_ (HS.mu 1 rfl) Try.underlying25 hc10) ?_
  refine v_ (fa_ Try.underlying48) ?_
  obtain ⟨A12, c13, hc14, le15, HS⟩ := HS.sO 2 rfl at48_0
  refine v_ (lb_ (HS.mu 0 rfl) Try.underlying25 hc14) ?_
  obtain ⟨t16, ha17, H⟩ := bind_some H
  refine cs_ HS Try.func58 (laws_eqIntS.runs k A8 c9 x0.f0 A12 c13 x1.f0 t16 _ (HS.getO 1 rfl) le11 (HS.getO 0 rfl) le15 ha17) (fun w18 HS => ?_)
  clear ha17
  refine nt_ ?_
  refine dn_ hK7 ?_
  rcases eti_ H with ⟨c19, H⟩ | ⟨c19, H⟩
  · refine wy_ (nB (bF c19)) ?_
    refine sr_ fun _ hK174 => ?_
    refine as_ ?_
    refine dn_ hK174 ?_
    obtain rfl := os H
    exact rt1 Try.f23 rfl rfl hR_ ⟨rfl, HS.b⟩
  refine wn_ (nB c19) ?_
  refine WC.skip ?_
  refine via_ hK6 ?_
  refine WC.seq fun _ hK20 => ?_
  refine sr_ fun _ hK21 => ?_
  refine v_ (fa_ Try.underlying48) ?_
  obtain ⟨A22, c23, hc24, le25, HS⟩ := HS.sO 2 rfl at48_2
  obtain ⟨A26, c27, hc28, le29, HS⟩ := HS.sO 3 rfl at48_3
  refine v_ (ls_ (HS.mu 1 rfl) Try.underlying36 (part_cons (at48_1 (HS.aO 4 rfl)).int (part_cons hc24 (part_cons hc28 (part_cons (at48_4 (HS.aO 4 rfl)).int (part_cons (at48_5 (HS.aO 4 rfl)).int part_nil)))))) ?_
  refine v_ (fa_ Try.underlying48) ?_
  obtain ⟨A30, c31, hc32, le33, HS⟩ := HS.sO 5 rfl at48_2
  obtain ⟨A34, c35, hc36, le37, HS⟩ := HS.sO 6 rfl at48_3
  refine v_ (ls_ (HS.mu 0 rfl) Try.underlying36 (part_cons (at48_1 (HS.aO 7 rfl)).int (part_cons hc32 (part_cons hc36 (part_cons (at48_4 (HS.aO 7 rfl)).int (part_cons (at48_5 (HS.aO 7 rfl)).int part_nil)))))) ?_
  obtain ⟨t38, ha39, H⟩ := bind_some H
  refine cs_ HS Try.func59 (laws_eqMatrix.runs k x0.f1 A22 c23 A26 c27 x1.f1 A30 c31 A34 c35 t38 _ (HS.getO 3 rfl) le25 (HS.getO 2 rfl) le29 (HS.getO 1 rfl) le33 (HS.getO 0 rfl) le37 ha39) (fun w40 HS => ?_)
  clear ha39
  refine nt_ ?_
  refine dn_ hK21 ?_
  rcases eti_ H with ⟨c41, H⟩ | ⟨c41, H⟩
  · refine wy_ (nB (bF c41)) ?_
    refine sr_ fun _ hK173 => ?_
    refine as_ ?_
    refine dn_ hK173 ?_
    obtain rfl := os H
    exact rt1 Try.f23 rfl rfl hR_ ⟨rfl, HS.b⟩
  refine wn_ (nB c41) ?_
  refine WC.skip ?_
  refine via_ hK20 ?_
  refine WC.seq fun _ hK42 => ?_
  refine sr_ fun _ hK43 => ?_
  refine v_ (fa_ Try.underlying48) ?_
  obtain ⟨A44, c45, hc46, le47, HS⟩ := HS.sO 6 rfl at48_7
  obtain ⟨A48, c49, hc50, le51, HS⟩ := HS.sO 7 rfl at48_8
  refine v_ (ls_ (HS.mu 1 rfl) Try.underlying36 (part_cons (at48_6 (HS.aO 8 rfl)).int (part_cons hc46 (part_cons hc50 (part_cons (at48_9 (HS.aO 8 rfl)).int (part_cons (at48_10 (HS.aO 8 rfl)).int part_nil)))))) ?_
  refine v_ (fa_ Try.underlying48) ?_
  obtain ⟨A52, c53, hc54, le55, HS⟩ := HS.sO 9 rfl at48_7
  obtain ⟨A56, c57, hc58, le59, HS⟩ := HS.sO 10 rfl at48_8
  refine v_ (ls_ (HS.mu 0 rfl) Try.underlying36 (part_cons (at48_6 (HS.aO 11 rfl)).int (part_cons hc54 (part_cons hc58 (part_cons (at48_9 (HS.aO 11 rfl)).int (part_cons (at48_10 (HS.aO 11 rfl)).int part_nil)))))) ?_
  obtain ⟨t60, ha61, H⟩ := bind_some H
  refine cs_ HS Try.func59 (laws_eqMatrix.runs k x0.f2 A44 c45 A48 c49 x1.f2 A52 c53 A56 c57 t60 _ (HS.getO 3 rfl) le47 (HS.getO 2 rfl) le51 (HS.getO 1 rfl) le55 (HS.getO 0 rfl) le59 ha61) (fun w62 HS => ?_)
  clear ha61
  refine nt_ ?_
  refine dn_ hK43 ?_
  rcases eti_ H with ⟨c63, H⟩ | ⟨c63, H⟩
  · refine wy_ (nB (bF c63)) ?_
    refine sr_ fun _ hK172 => ?_
    refine as_ ?_
    refine dn_ hK172 ?_
    obtain rfl := os H
    exact rt1 Try.f23 rfl rfl hR_ ⟨rfl, HS.b⟩
  refine wn_ (nB c63) ?_
  refine WC.skip ?_
  refine via_ hK42 ?_
  refine WC.seq fun _ hK64 => ?_
  refine sr_ fun _ hK65 => ?_
  refine v_ (fa_ Try.underlying48) ?_
  obtain ⟨A66, c67, hc68, le69, HS⟩ := HS.sO 10 rfl at48_12
  obtain ⟨A70, c71, hc72, le73, HS⟩ := HS.sO 11 rfl at48_13
  refine v_ (ls_ (HS.mu 1 rfl) Try.underlying36 (part_cons (at48_11 (HS.aO 12 rfl)).int (part_cons hc68 (part_cons hc72 (part_cons (at48_14 (HS.aO 12 rfl)).int (part_cons (at48_15 (HS.aO 12 rfl)).int part_nil)))))) ?_
  refine v_ (fa_ Try.underlying48) ?_
  obtain ⟨A74, c75, hc76, le77, HS⟩ := HS.sO 13 rfl at48_12
  obtain ⟨A78, c79, hc80, le81, HS⟩ := HS.sO 14 rfl at48_13
  refine v_ (ls_ (HS.mu 0 rfl) Try.underlying36 (part_cons (at48_11 (HS.aO 15 rfl)).int (part_cons hc76 (part_cons hc80 (part_cons (at48_14 (HS.aO 15 rfl)).int (part_cons (at48_15 (HS.aO 15 rfl)).int part_nil)))))) ?_
  obtain ⟨t82, ha83, H⟩ := bind_some H
  refine cs_ HS Try.func59 (laws_eqMatrix.runs k x0.f3 A66 c67 A70 c71 x1.f3 A74 c75 A78 c79 t82 _ (HS.getO 3 rfl) le69 (HS.getO 2 rfl) le73 (HS.getO 1 rfl) le77 (HS.getO 0 rfl) le81 ha83) (fun w84 HS => ?_)
  clear ha83
  refine nt_ ?_
  refine dn_ hK65 ?_
  rcases eti_ H with ⟨c85, H⟩ | ⟨c85, H⟩
  · refine wy_ (nB (bF c85)) ?_
    refine sr_ fun _ hK171 => ?_
    refine as_ ?_
    refine dn_ hK171 ?_
    obtain rfl := os H
    exact rt1 Try.f23 rfl rfl hR_ ⟨rfl, HS.b⟩
  refine wn_ (nB c85) ?_
  refine WC.skip ?_
  refine via_ hK64 ?_
  refine WC.seq fun _ hK86 => ?_
  refine sr_ fun _ hK87 => ?_
  refine v_ (fa_ Try.underlying48) ?_
  obtain ⟨A88, c89, hc90, le91, HS⟩ := HS.sO 14 rfl at48_17
  obtain ⟨A92, c93, hc94, le95, HS⟩ := HS.sO 15 rfl at48_18
  refine v_ (ls_ (HS.mu 1 rfl) Try.underlying36 (part_cons (at48_16 (HS.aO 16 rfl)).int (part_cons hc90 (part_cons hc94 (part_cons (at48_19 (HS.aO 16 rfl)).int (part_cons (at48_20 (HS.aO 16 rfl)).int part_nil)))))) ?_
  refine v_ (fa_ Try.underlying48) ?_
  obtain ⟨A96, c97, hc98, le99, HS⟩ := HS.sO 17 rfl at48_17
  obtain ⟨A100, c101, hc102, le103, HS⟩ := HS.sO 18 rfl at48_18
  refine v_ (ls_ (HS.mu 0 rfl) Try.underlying36 (part_cons (at48_16 (HS.aO 19 rfl)).int (part_cons hc98 (part_cons hc102 (part_cons (at48_19 (HS.aO 19 rfl)).int (part_cons (at48_20 (HS.aO 19 rfl)).int part_nil)))))) ?_
  obtain ⟨t104, ha105, H⟩ := bind_some H
  refine cs_ HS Try.func59 (laws_eqMatrix.runs k x0.f4 A88 c89 A92 c93 x1.f4 A96 c97 A100 c101 t104 _ (HS.getO 3 rfl) le91 (HS.getO 2 rfl) le95 (HS.getO 1 rfl) le99 (HS.getO 0 rfl) le103 ha105) (fun w106 HS => ?_)
  clear ha105
  refine nt_ ?_
  refine dn_ hK87 ?_
  rcases eti_ H with ⟨c107, H⟩ | ⟨c107, H⟩
  · refine wy_ (nB (bF c107)) ?_
    refine sr_ fun _ hK170 => ?_
    refine as_ ?_
    refine dn_ hK170 ?_
    obtain rfl := os H
    exact rt1 Try.f23 rfl rfl hR_ ⟨rfl, HS.b⟩
  refine wn_ (nB c107) ?_
  refine WC.skip ?_
  refine via_ hK86 ?_
  refine WC.seq fun _ hK108 => ?_
  refine sr_ fun _ hK109 => ?_
  refine v_ (fa_ Try.underlying48) ?_
  obtain ⟨A110, c111, hc112, le113, HS⟩ := HS.sO 18 rfl at48_21
  refine v_ (lb_ (HS.mu 1 rfl) Try.underlying25 hc112) ?_
  refine v_ (fa_ Try.underlying48) ?_
  obtain ⟨A114, c115, hc116, le117, HS⟩ := HS.sO 20 rfl at48_21
  refine v_ (lb_ (HS.mu 0 rfl) Try.underlying25 hc116) ?_
  obtain ⟨t118, ha119, H⟩ := bind_some H
  refine cs_ HS Try.func58 (laws_eqIntS.runs k A110 c111 x0.f5 A114 c115 x1.f5 t118 _ (HS.getO 1 rfl) le113 (HS.getO 0 rfl) le117 ha119) (fun w120 HS => ?_)
  clear ha119
  refine nt_ ?_
  refine dn_ hK109 ?_
  rcases eti_ H with ⟨c121, H⟩ | ⟨c121, H⟩
  · refine wy_ (nB (bF c121)) ?_
    refine sr_ fun _ hK169 => ?_
    refine as_ ?_
    refine dn_ hK169 ?_
    obtain rfl := os H
    exact rt1 Try.f23 rfl rfl hR_ ⟨rfl, HS.b⟩
  refine wn_ (nB c121) ?_
  refine WC.skip ?_
  refine via_ hK108 ?_
  refine WC.seq fun _ hK122 => ?_
  refine sr_ fun _ hK123 => ?_
  refine v_ (fa_ Try.underlying48) ?_
  obtain ⟨A124, c125, hc126, le127, HS⟩ := HS.sO 20 rfl at48_23
  obtain ⟨A128, c129, hc130, le131, HS⟩ := HS.sO 21 rfl at48_24
  refine v_ (ls_ (HS.mu 1 rfl) Try.underlying36 (part_cons (at48_22 (HS.aO 22 rfl)).int (part_cons hc126 (part_cons hc130 (part_cons (at48_25 (HS.aO 22 rfl)).int (part_cons (at48_26 (HS.aO 22 rfl)).int part_nil)))))) ?_
  refine v_ (fa_ Try.underlying48) ?_
  obtain ⟨A132, c133, hc134, le135, HS⟩ := HS.sO 23 rfl at48_23
  obtain ⟨A136, c137, hc138, le139, HS⟩ := HS.sO 24 rfl at48_24
  refine v_ (ls_ (HS.mu 0 rfl) Try.underlying36 (part_cons (at48_22 (HS.aO 25 rfl)).int (part_cons hc134 (part_cons hc138 (part_cons (at48_25 (HS.aO 25 rfl)).int (part_cons (at48_26 (HS.aO 25 rfl)).int part_nil)))))) ?_
  obtain ⟨t140, ha141, H⟩ := bind_some H
  refine cs_ HS Try.func59 (laws_eqMatrix.runs k x0.f6 A124 c125 A128 c129 x1.f6 A132 c133 A136 c137 t140 _ (HS.getO 3 rfl) le127 (HS.getO 2 rfl) le131 (HS.getO 1 rfl) le135 (HS.getO 0 rfl) le139 ha141) (fun w142 HS => ?_)
  clear ha141
  refine nt_ ?_
  refine dn_ hK123 ?_
  rcases eti_ H with ⟨c143, H⟩ | ⟨c143, H⟩
  · refine wy_ (nB (bF c143)) ?_
    refine sr_ fun _ hK168 => ?_
    refine as_ ?_
    refine dn_ hK168 ?_
    obtain rfl := os H
    exact rt1 Try.f23 rfl rfl hR_ ⟨rfl, HS.b⟩
  refine wn_ (nB c143) ?_
  refine WC.skip ?_
  refine via_ hK122 ?_
  refine WC.seq fun _ hK144 => ?_
  refine sr_ fun _ hK145 => ?_
  refine v_ (fa_ Try.underlying48) ?_
  obtain ⟨A146, c147, hc148, le149, HS⟩ := HS.sO 24 rfl at48_28
  obtain ⟨A150, c151, hc152, le153, HS⟩ := HS.sO 25 rfl at48_29
  refine v_ (ls_ (HS.mu 1 rfl) Try.underlying36 (part_cons (at48_27 (HS.aO 26 rfl)).int (part_cons hc148 (part_cons hc152 (part_cons (at48_30 (HS.aO 26 rfl)).int (part_cons (at48_31 (HS.aO 26 rfl)).int part_nil)))))) ?_
  refine v_ (fa_ Try.underlying48) ?_
  obtain ⟨A154, c155, hc156, le157, HS⟩ := HS.sO 27 rfl at48_28
  obtain ⟨A158, c159, hc160, le161, HS⟩ := HS.sO 28 rfl at48_29
  refine v_ (ls_ (HS.mu 0 rfl) Try.underlying36 (part_cons (at48_27 (HS.aO 29 rfl)).int (part_cons hc156 (part_cons hc160 (part_cons (at48_30 (HS.aO 29 rfl)).int (part_cons (at48_31 (HS.aO 29 rfl)).int part_nil)))))) ?_
  obtain ⟨t162, ha163, H⟩ := bind_some H
  refine cs_ HS Try.func59 (laws_eqMatrix.runs k x0.f7 A146 c147 A150 c151 x1.f7 A154 c155 A158 c159 t162 _ (HS.getO 3 rfl) le149 (HS.getO 2 rfl) le153 (HS.getO 1 rfl) le157 (HS.getO 0 rfl) le161 ha163) (fun w164 HS => ?_)
  clear ha163
  refine nt_ ?_
  refine dn_ hK145 ?_
  rcases eti_ H with ⟨c165, H⟩ | ⟨c165, H⟩
  · refine wy_ (nB (bF c165)) ?_
    refine sr_ fun _ hK167 => ?_
    refine as_ ?_
    refine dn_ hK167 ?_
    obtain rfl := os H
    exact rt1 Try.f23 rfl rfl hR_ ⟨rfl, HS.b⟩
  refine wn_ (nB c165) ?_
  refine WC.skip ?_
  refine via_ hK144 ?_
  refine sr_ fun _ hK166 => ?_
  refine as_ ?_
  refine dn_ hK166 ?_
  obtain rfl := os H
  exact rt1 Try.f23 rfl rfl hR_ ⟨rfl, HS.b⟩
def laws_eqLayerS.b0 (l0 : List S48) (l1 : List S48) (rec_ : Int → Option (Bool ⊕ Int)) (k18 : Nat) (i11 : Int) : Option (Bool ⊕ Int) := (if i11 < (l0.length : Int) then (if 0 ≤ i11 ∧ i11 < (l0.length : Int) then (if 0 ≤ i11 ∧ i11 < (l1.length : Int) then ((laws_eqLayer.g k18 (l0.getD i11.toNat o48) (l1.getD i11.toNat o48)).bind fun t35 => (if t35 = true then (rec_ (wrap64 (i11 + 1))) else (some (Sum.inl false)))) else none) else none) else (some (Sum.inr i11)))
def laws_eqLayerS.l0 (l0 : List S48) (l1 : List S48) : Nat → Int → Option (Bool ⊕ Int)
  | 0, _ => none
  | k + 1, i11 => laws_eqLayerS.b0 l0 l1 (laws_eqLayerS.l0 l0 l1 k) k i11
def laws_eqLayerS.g (k : Nat) (l0 : List S48) (l1 : List S48) : Option Bool := (if (l0.length : Int) = (l1.length : Int) then ((laws_eqLayerS.l0 l0 l1 k 0).bind (fun oc16 => match oc16 with | .inl r_ => some r_ | .inr i11 => (some true))) else (some false))
theorem laws_eqLayerS.runs (k : Nat) (A0 : Option Addr) (c0 : Nat) (l0 : List S48) (A1 : Option Addr) (c1 : Nat) (l1 : List S48) (r : Bool) (w : World) (hr0 : k48.C w A0 l0.length l0) (hc0 : l0.length ≤ c0) (hr1 : k48.C w A1 l1.length l1) (hc1 : l1.length ≤ c1) (H : laws_eqLayerS.g k l0 l1 = some r) :
    Calls Try.prog 57 #[.slice A0 l0.length c0, .slice A1 l1.length c1] w fun e w' => e = .returned (.bool r) ∧ Below w.heap.size w w' := by
  unfold laws_eqLayerS.g at H
  have HS : St (fun _ => True) w w [] [(cF k48 A0 l0), (cF k48 A1 l1)] [] := St.start (foot_cons (foot_C h48 hr0) (foot_cons (foot_C h48 hr1) foot_nil))
  refine cw_ (n := 27) Try.func57 fun R_ hR_ => ?_
  refine sr_ fun _ hK1 => ?_
  refine as_ ?_
  refine dn_ hK1 ?_
  refine WC.seq fun _ hK2 => ?_
  refine sr_ fun _ hK3 => ?_
  refine mv_ ?_
  refine ln_ Try.underlying35 ?_
  refine mv_ ?_
  refine ln_ Try.underlying35 ?_
  refine b_ bin_neq ?_
  refine dn_ hK3 ?_
  rcases eti_ H with ⟨c4, H⟩ | ⟨c4, H⟩
  · refine wy_ (qT c4) ?_
    refine sr_ fun _ hK40 => ?_
    refine as_ ?_
    refine dn_ hK40 ?_
    obtain rfl := os H
    exact rt1 Try.f57 rfl rfl hR_ ⟨rfl, HS.b⟩
  refine wn_ (qF c4) ?_
  refine WC.skip ?_
  refine via_ hK2 ?_
  refine WC.seq fun K5 hK5 => ?_
  refine sr_ fun _ hK6 => ?_
  refine as_ ?_
  refine dn_ hK6 ?_
  refine WC.block ?_
  obtain ⟨G7, hG8, oc9, H, Ho10⟩ := open_G H
  let J12 := fun (i11 : Int) (E_ : Env) (W_ : World) => E_ = [(0, .slice A0 l0.length c0), (1, .slice A1 l1.length c1), (5, .int .i64 i11)] ∧ St (fun _ => True) w W_ [] [(cF k48 A0 l0), (cF k48 A1 l1)] []
  have X13 : ∀ E_ W_, (∃ i11, G7 (Sum.inr i11) = some r ∧ J12 i11 E_ W_) → ∀ a, Fits a 27 E_ → K5 a W_ := by
    rintro E_ w14 ⟨i11, H, rfl, HS⟩
    rw [hG8] at H
    (try dsimp only at H)
    refine hK5 _ _ ?_
    refine sr_ fun _ hK15 => ?_
    refine as_ ?_
    refine dn_ hK15 ?_
    obtain rfl := os H
    exact rt1 Try.f57 rfl rfl hR_ ⟨rfl, HS.b⟩
  refine WC.loop (fun k_ E_ W_ => ∃ i11, (∃ o_, laws_eqLayerS.l0 l0 l1 k_ i11 = some o_ ∧ G7 o_ = some r) ∧ J12 i11 E_ W_) k ⟨0, ⟨_, H, Ho10⟩, rfl, HS⟩ (sb rfl) ?_
  rintro k_ E_ w17 ⟨i11, ⟨oc9, H, Ho10⟩, rfl, HS⟩
  rcases k_ with _ | k18
  · exact no_ H
  replace H : laws_eqLayerS.b0 l0 l1 (laws_eqLayerS.l0 l0 l1 k18) k18 i11 = some oc9 := H
  unfold laws_eqLayerS.b0 at H
  refine WC.seq fun _ hK19 => ?_
  refine sr_ fun _ hK20 => ?_
  refine mv_ ?_
  refine mv_ ?_
  refine ln_ Try.underlying35 ?_
  refine b_ bin_lss ?_
  refine dn_ hK20 ?_
  rcases eti_ H with ⟨c21, H⟩ | ⟨c21, H⟩
  · refine wn_ (dF c21) ?_
    refine WC.exit ?_
    obtain rfl := os H
    exact WQ.via2 (fun _ _ h_ => h_) X13 ⟨i11, Ho10, rfl, HS⟩ (sb rfl)
  refine wy_ (dT c21) ?_
  refine WC.skip ?_
  refine via_ hK19 ?_
  refine WC.seq fun _ hK22 => ?_
  refine WC.block ?_
  refine WC.seq fun _ hK23 => ?_
  refine WC.drawS HS [] rfl rfl (fun w24 HS => ?_)
  have HB := Below.refl w24.heap.size w24
  have HSW := HS
  refine dm_ 0 ?_
  refine dm_ 1 ?_
  obtain ⟨⟨q25, q26⟩, H⟩ := if_some H
  obtain ⟨ad27, rfl⟩ := C_open (HS.getO 0 rfl) (by omega)
  refine di_ 2 Try.underlying35 32 q25 q26 ?_
  refine dm_ 4 ?_
  refine dm_ 5 ?_
  obtain ⟨⟨q28, q29⟩, H⟩ := if_some H
  obtain ⟨ad30, rfl⟩ := C_open (HS.getO 1 rfl) (by omega)
  refine di_ 6 Try.underlying35 32 q28 q29 ?_
  obtain ⟨e31, el32, HS⟩ := HS.elO 0 rfl (by decide) o48 i11 q25 q26
  replace HS := HS.deriveO (p := (kF k48 (l0.getD i11.toNat o48) e31)) (fun W_ hO_ hN_ => hO_.1.1)
  refine dt_ 3 (Below.refl _ _) (fun w_ hw_ => Run.loadS (cs := e31) rfl rfl Try.underlying48 rfl (by rw [el32]; kernel_rfl) ((HS.below hw_).getO 1 rfl).2) ?_
  obtain ⟨e33, el34, HS⟩ := HS.elO 3 rfl (by decide) o48 i11 q28 q29
  replace HS := HS.deriveO (p := (kF k48 (l1.getD i11.toNat o48) e33)) (fun W_ hO_ hN_ => hO_.1.1)
  refine dt_ 7 (Below.refl _ _) (fun w_ hw_ => Run.loadS (cs := e33) rfl rfl Try.underlying48 rfl (by rw [el34]; kernel_rfl) ((HS.below hw_).getO 1 rfl).2) ?_
  obtain ⟨t35, ha36, H⟩ := bind_some H
  refine dcs_ HS HB 8 (w_none rfl) Try.func23 (laws_eqLayer.runs k18 e31 (l0.getD i11.toNat o48) e33 (l1.getD i11.toNat o48) t35 _ (HS.getO 2 rfl) (HS.getO 0 rfl) ha36) (fun w37 HS HB => ?_)
  clear ha36
  refine dp_ 9 (fun _ => Run.not rfl rfl) ?_
  refine dd_ ?_
  clear HB HSW
  refine via_ hK23 ?_
  rcases ite_ H with ⟨c38, H⟩ | ⟨c38, H⟩
  · refine wn_ (nB c38) ?_
    refine WC.skip ?_
    refine via_ hK22 ?_
    refine rg_ ?_
    refine mv_ ?_
    refine b_ bin_add64 ?_
    refine as_ ?_
    refine WL.done ?_
    exact WQ.round k18 (fun _ _ h_ => h_) (Nat.lt_succ_self _) ⟨(wrap64 (i11 + 1)), ⟨_, H, Ho10⟩, rfl, (St.pk HS [4, 5] [] rfl rfl)⟩ (sb rfl)
  refine wy_ (nB (bF c38)) ?_
  refine sr_ fun _ hK39 => ?_
  refine as_ ?_
  refine dn_ hK39 ?_
  refine WC.ret ?_
  obtain rfl := os H
  rw [hG8] at Ho10
  replace H : some _ = some _ := Ho10
  obtain rfl := os H
  exact fin1 Try.f57 rfl rfl hR_ ⟨rfl, HS.b⟩
def laws_eqModel.g (k : Nat) (x0 : S39) (x1 : S39) : Option Bool := (if x0.f0 = x1.f0 then (if x0.f1 = x1.f1 then (if x0.f2 = x1.f2 then ((laws_eqMergeS.g k x0.f3 x1.f3).bind fun t25 => (if t25 = true then ((laws_eqIntSS.g k x0.f4 x1.f4).bind fun t39 => (if t39 = true then ((laws_eqLayerS.g k x0.f5 x1.f5).bind fun t53 => (if t53 = true then ((laws_eqIntS.g k x0.f6 x1.f6).bind fun t67 => (if t67 = true then ((laws_eqMatrix.g k x0.f7 x1.f7).bind fun t89 => (if t89 = true then ((laws_eqTurns.g k x0.f8 x1.f8).bind fun t111 => (if t111 = true then (some true) else (some false))) else (some false))) else (some false))) else (some false))) else (some false))) else (some false))) else (some false)) else (some false)) else (some false))
theorem laws_eqModel.runs (k : Nat) (cs0 : List Value) (x0 : S39) (cs1 : List Value) (x1 : S39) (r : Bool) (w : World) (hk0 : k39.K w x0 cs0) (hk1 : k39.K w x1 cs1) (H : laws_eqModel.g k x0 x1 = some r) :
    Calls Try.prog 18 #[.agg cs0.toArray, .agg cs1.toArray] w fun e w' => e = .returned (.bool r) ∧ Below w.heap.size w w' := by
  have el0 : cs0.length = 14 := k39.K_len hk0
  have el1 : cs1.length = 14 := k39.K_len hk1
  unfold laws_eqModel.g at H
  have HS : St (fun _ => True) w w [] [(kF k39 x0 cs0), (kF k39 x1 cs1)] [] := St.start (foot_cons (foot_K h39 hk0) (foot_cons (foot_K h39 hk1) foot_nil))
  refine cw_ (n := 56) Try.func18 fun R_ hR_ => ?_
  refine sr_ fun _ hK1 => ?_
  refine bo_ HS (fun b2 w3 hb2 HS => ?_)
  refine bo_ HS (fun b4 w5 hb4 HS => ?_)
  refine as_ ?_
  refine dn_ hK1 ?_
  refine WC.seq fun _ hK6 => ?_
  refine sr_ fun _ hK7 => ?_
  refine v_ (fa_ Try.underlying39) ?_
  refine v_ (lb_ (HS.mu 1 rfl) Try.underlying3 (at39_0 (HS.aO 0 rfl)).int) ?_
  refine v_ (fa_ Try.underlying39) ?_
  refine v_ (lb_ (HS.mu 0 rfl) Try.underlying3 (at39_0 (HS.aO 1 rfl)).int) ?_
  refine b_ bin_neq ?_
  refine dn_ hK7 ?_
  rcases eti_ H with ⟨c8, H⟩ | ⟨c8, H⟩
  · refine wy_ (qT c8) ?_
    refine sr_ fun _ hK124 => ?_
    refine as_ ?_
    refine dn_ hK124 ?_
    obtain rfl := os H
    exact rt1 Try.f18 rfl rfl hR_ ⟨rfl, HS.b⟩
  refine wn_ (qF c8) ?_
  refine WC.skip ?_
  refine via_ hK6 ?_
  refine WC.seq fun _ hK9 => ?_
  refine sr_ fun _ hK10 => ?_
  refine v_ (fa_ Try.underlying39) ?_
  refine v_ (lb_ (HS.mu 1 rfl) Try.underlying3 (at39_1 (HS.aO 0 rfl)).int) ?_
  refine v_ (fa_ Try.underlying39) ?_
  refine v_ (lb_ (HS.mu 0 rfl) Try.underlying3 (at39_1 (HS.aO 1 rfl)).int) ?_
  refine b_ bin_neq ?_
  refine dn_ hK10 ?_
  rcases eti_ H with ⟨c11, H⟩ | ⟨c11, H⟩
  · refine wy_ (qT c11) ?_
    refine sr_ fun _ hK123 => ?_
    refine as_ ?_
    refine dn_ hK123 ?_
    obtain rfl := os H
    exact rt1 Try.f18 rfl rfl hR_ ⟨rfl, HS.b⟩
  refine wn_ (qF c11) ?_
  refine WC.skip ?_
  refine via_ hK9 ?_
  refine WC.seq fun _ hK12 => ?_
  refine sr_ fun _ hK13 => ?_
  refine v_ (fa_ Try.underlying39) ?_
  refine v_ (lb_ (HS.mu 1 rfl) Try.underlying3 (at39_2 (HS.aO 0 rfl)).int) ?_
  refine v_ (fa_ Try.underlying39) ?_
  refine v_ (lb_ (HS.mu 0 rfl) Try.underlying3 (at39_2 (HS.aO 1 rfl)).int) ?_
  refine b_ bin_neq ?_
  refine dn_ hK13 ?_
  rcases eti_ H with ⟨c14, H⟩ | ⟨c14, H⟩
  · refine wy_ (qT c14) ?_
    refine sr_ fun _ hK122 => ?_
    refine as_ ?_
    refine dn_ hK122 ?_
    obtain rfl := os H
    exact rt1 Try.f18 rfl rfl hR_ ⟨rfl, HS.b⟩
  refine wn_ (qF c14) ?_
  refine WC.skip ?_
  refine via_ hK12 ?_
  refine WC.seq fun _ hK15 => ?_
  refine sr_ fun _ hK16 => ?_
  refine v_ (fa_ Try.underlying39) ?_
  obtain ⟨A17, c18, hc19, le20, HS⟩ := HS.sO 0 rfl at39_3
  refine v_ (lb_ (HS.mu 1 rfl) Try.underlying34 hc19) ?_
  refine v_ (fa_ Try.underlying39) ?_
  obtain ⟨A21, c22, hc23, le24, HS⟩ := HS.sO 2 rfl at39_3
  refine v_ (lb_ (HS.mu 0 rfl) Try.underlying34 hc23) ?_
  obtain ⟨t25, ha26, H⟩ := bind_some H
  refine cs_ HS Try.func55 (laws_eqMergeS.runs k A17 c18 x0.f3 A21 c22 x1.f3 t25 _ (HS.getO 1 rfl) le20 (HS.getO 0 rfl) le24 ha26) (fun w27 HS => ?_)
  clear ha26
  refine nt_ ?_
  refine dn_ hK16 ?_
  rcases eti_ H with ⟨c28, H⟩ | ⟨c28, H⟩
  · refine wy_ (nB (bF c28)) ?_
    refine sr_ fun _ hK121 => ?_
    refine as_ ?_
    refine dn_ hK121 ?_
    obtain rfl := os H
    exact rt1 Try.f18 rfl rfl hR_ ⟨rfl, HS.b⟩
  refine wn_ (nB c28) ?_
  refine WC.skip ?_
  refine via_ hK15 ?_
  refine WC.seq fun _ hK29 => ?_
  refine sr_ fun _ hK30 => ?_
  refine v_ (fa_ Try.underlying39) ?_
  obtain ⟨A31, c32, hc33, le34, HS⟩ := HS.sO 2 rfl at39_4
  refine v_ (lb_ (HS.mu 1 rfl) Try.underlying23 hc33) ?_
  refine v_ (fa_ Try.underlying39) ?_
  obtain ⟨A35, c36, hc37, le38, HS⟩ := HS.sO 4 rfl at39_4
  refine v_ (lb_ (HS.mu 0 rfl) Try.underlying23 hc37) ?_
  obtain ⟨t39, ha40, H⟩ := bind_some H
  refine cs_ HS Try.func56 (laws_eqIntSS.runs k A31 c32 x0.f4 A35 c36 x1.f4 t39 _ (HS.getO 1 rfl) le34 (HS.getO 0 rfl) le38 ha40) (fun w41 HS => ?_)
  clear ha40
  refine nt_ ?_
  refine dn_ hK30 ?_
  rcases eti_ H with ⟨c42, H⟩ | ⟨c42, H⟩
  · refine wy_ (nB (bF c42)) ?_
    refine sr_ fun _ hK120 => ?_
    refine as_ ?_
    refine dn_ hK120 ?_
    obtain rfl := os H
    exact rt1 Try.f18 rfl rfl hR_ ⟨rfl, HS.b⟩
  refine wn_ (nB c42) ?_
  refine WC.skip ?_
  refine via_ hK29 ?_
  refine WC.seq fun _ hK43 => ?_
  refine sr_ fun _ hK44 => ?_
  refine v_ (fa_ Try.underlying39) ?_
  obtain ⟨A45, c46, hc47, le48, HS⟩ := HS.sO 4 rfl at39_5
  refine v_ (lb_ (HS.mu 1 rfl) Try.underlying35 hc47) ?_
  refine v_ (fa_ Try.underlying39) ?_
  obtain ⟨A49, c50, hc51, le52, HS⟩ := HS.sO 6 rfl at39_5
  refine v_ (lb_ (HS.mu 0 rfl) Try.underlying35 hc51) ?_
  obtain ⟨t53, ha54, H⟩ := bind_some H
  refine cs_ HS Try.func57 (laws_eqLayerS.runs k A45 c46 x0.f5 A49 c50 x1.f5 t53 _ (HS.getO 1 rfl) le48 (HS.getO 0 rfl) le52 ha54) (fun w55 HS => ?_)
  clear ha54
  refine nt_ ?_
  refine dn_ hK44 ?_
  rcases eti_ H with ⟨c56, H⟩ | ⟨c56, H⟩
  · refine wy_ (nB (bF c56)) ?_
    refine sr_ fun _ hK119 => ?_
    refine as_ ?_
    refine dn_ hK119 ?_
    obtain rfl := os H
    exact rt1 Try.f18 rfl rfl hR_ ⟨rfl, HS.b⟩
  refine wn_ (nB c56) ?_
  refine WC.skip ?_
  refine via_ hK43 ?_
  refine WC.seq fun _ hK57 => ?_
  refine sr_ fun _ hK58 => ?_
  refine v_ (fa_ Try.underlying39) ?_
  obtain ⟨A59, c60, hc61, le62, HS⟩ := HS.sO 6 rfl at39_6
  refine v_ (lb_ (HS.mu 1 rfl) Try.underlying25 hc61) ?_
  refine v_ (fa_ Try.underlying39) ?_
  obtain ⟨A63, c64, hc65, le66, HS⟩ := HS.sO 8 rfl at39_6
  refine v_ (lb_ (HS.mu 0 rfl) Try.underlying25 hc65) ?_
  obtain ⟨t67, ha68, H⟩ := bind_some H
  refine cs_ HS Try.func58 (laws_eqIntS.runs k A59 c60 x0.f6 A63 c64 x1.f6 t67 _ (HS.getO 1 rfl) le62 (HS.getO 0 rfl) le66 ha68) (fun w69 HS => ?_)
  clear ha68
  refine nt_ ?_
  refine dn_ hK58 ?_
  rcases eti_ H with ⟨c70, H⟩ | ⟨c70, H⟩
  · refine wy_ (nB (bF c70)) ?_
    refine sr_ fun _ hK118 => ?_
    refine as_ ?_
    refine dn_ hK118 ?_
    obtain rfl := os H
    exact rt1 Try.f18 rfl rfl hR_ ⟨rfl, HS.b⟩
  refine wn_ (nB c70) ?_
  refine WC.skip ?_
  refine via_ hK57 ?_
  refine WC.seq fun _ hK71 => ?_
  refine sr_ fun _ hK72 => ?_
  refine v_ (fa_ Try.underlying39) ?_
  obtain ⟨A73, c74, hc75, le76, HS⟩ := HS.sO 8 rfl at39_8
  obtain ⟨A77, c78, hc79, le80, HS⟩ := HS.sO 9 rfl at39_9
  refine v_ (ls_ (HS.mu 1 rfl) Try.underlying36 (part_cons (at39_7 (HS.aO 10 rfl)).int (part_cons hc75 (part_cons hc79 (part_cons (at39_10 (HS.aO 10 rfl)).int (part_cons (at39_11 (HS.aO 10 rfl)).int part_nil)))))) ?_
  refine v_ (fa_ Try.underlying39) ?_
  obtain ⟨A81, c82, hc83, le84, HS⟩ := HS.sO 11 rfl at39_8
  obtain ⟨A85, c86, hc87, le88, HS⟩ := HS.sO 12 rfl at39_9
  refine v_ (ls_ (HS.mu 0 rfl) Try.underlying36 (part_cons (at39_7 (HS.aO 13 rfl)).int (part_cons hc83 (part_cons hc87 (part_cons (at39_10 (HS.aO 13 rfl)).int (part_cons (at39_11 (HS.aO 13 rfl)).int part_nil)))))) ?_
  obtain ⟨t89, ha90, H⟩ := bind_some H
  refine cs_ HS Try.func59 (laws_eqMatrix.runs k x0.f7 A73 c74 A77 c78 x1.f7 A81 c82 A85 c86 t89 _ (HS.getO 3 rfl) le76 (HS.getO 2 rfl) le80 (HS.getO 1 rfl) le84 (HS.getO 0 rfl) le88 ha90) (fun w91 HS => ?_)
  clear ha90
  refine nt_ ?_
  refine dn_ hK72 ?_
  rcases eti_ H with ⟨c92, H⟩ | ⟨c92, H⟩
  · refine wy_ (nB (bF c92)) ?_
    refine sr_ fun _ hK117 => ?_
    refine as_ ?_
    refine dn_ hK117 ?_
    obtain rfl := os H
    exact rt1 Try.f18 rfl rfl hR_ ⟨rfl, HS.b⟩
  refine wn_ (nB c92) ?_
  refine WC.skip ?_
  refine via_ hK71 ?_
  refine WC.seq fun _ hK93 => ?_
  refine sr_ fun _ hK94 => ?_
  refine v_ (fa_ Try.underlying39) ?_
  obtain ⟨A95, c96, hc97, le98, HS⟩ := HS.sO 12 rfl at39_12
  obtain ⟨A99, c100, hc101, le102, HS⟩ := HS.sO 13 rfl at39_13
  refine v_ (ls_ (HS.mu 1 rfl) Try.underlying37 (part_cons hc97 (part_cons hc101 part_nil))) ?_
  refine v_ (fa_ Try.underlying39) ?_
  obtain ⟨A103, c104, hc105, le106, HS⟩ := HS.sO 15 rfl at39_12
  obtain ⟨A107, c108, hc109, le110, HS⟩ := HS.sO 16 rfl at39_13
  refine v_ (ls_ (HS.mu 0 rfl) Try.underlying37 (part_cons hc105 (part_cons hc109 part_nil))) ?_
  obtain ⟨t111, ha112, H⟩ := bind_some H
  refine cs_ HS Try.func60 (laws_eqTurns.runs k x0.f8 A95 c96 A99 c100 x1.f8 A103 c104 A107 c108 t111 _ (HS.getO 3 rfl) le98 (HS.getO 2 rfl) le102 (HS.getO 1 rfl) le106 (HS.getO 0 rfl) le110 ha112) (fun w113 HS => ?_)
  clear ha112
  refine nt_ ?_
  refine dn_ hK94 ?_
  rcases eti_ H with ⟨c114, H⟩ | ⟨c114, H⟩
  · refine wy_ (nB (bF c114)) ?_
    refine sr_ fun _ hK116 => ?_
    refine as_ ?_
    refine dn_ hK116 ?_
    obtain rfl := os H
    exact rt1 Try.f18 rfl rfl hR_ ⟨rfl, HS.b⟩
  refine wn_ (nB c114) ?_
  refine WC.skip ?_
  refine via_ hK93 ?_
  refine sr_ fun _ hK115 => ?_
  refine as_ ?_
  refine dn_ hK115 ?_
  obtain rfl := os H
  exact rt1 Try.f18 rfl rfl hR_ ⟨rfl, HS.b⟩
def impl_isNibble.g (k : Nat) (a0 : Int) : Option Bool := ((impl_in.f a0 (-8) 7).bind fun t3 => (some t3))
theorem impl_isNibble.runs (k : Nat) (a0 : Int) (r : Bool) (w : World) (H : impl_isNibble.g k a0 = some r) :
    Calls Try.prog 156 #[.int .i64 a0] w fun e w' => e = .returned (.bool r) ∧ Below w.heap.size w w' := by
  unfold impl_isNibble.g at H
  have HS : St (fun _ => True) w w [] [] [] := St.start foot_nil
  refine cw_ (n := 5) Try.func156 fun R_ hR_ => ?_
  refine sr_ fun _ hK1 => ?_
  refine as_ ?_
  refine dn_ hK1 ?_
  refine sr_ fun _ hK2 => ?_
  refine mv_ ?_
  obtain ⟨t3, ha4, H⟩ := bind_some H
  refine cs0_ HS Try.func70 (impl_in.calls a0 (-8) 7 t3 _ ha4) (fun w5 HS => ?_)
  clear ha4
  refine as_ ?_
  refine dn_ hK2 ?_
  obtain rfl := os H
  exact rt1 Try.f156 rfl rfl hR_ ⟨rfl, HS.b⟩
def impl_PackNibbles_1.g (k : Nat) (a0 : Int) : Option Bool := ((impl_isNibble.g k a0).bind fun t3 => (some (!t3)))
theorem impl_PackNibbles_1.runs (k : Nat) (a0 : Int) (r : Bool) (w : World) (H : impl_PackNibbles_1.g k a0 = some r) :
    Calls Try.prog 155 #[.int .i64 a0] w fun e w' => e = .returned (.bool r) ∧ Below w.heap.size w w' := by
  unfold impl_PackNibbles_1.g at H
  have HS : St (fun _ => True) w w [] [] [] := St.start foot_nil
  refine cw_ (n := 6) Try.func155 fun R_ hR_ => ?_
  refine sr_ fun _ hK1 => ?_
  refine as_ ?_
  refine dn_ hK1 ?_
  refine sr_ fun _ hK2 => ?_
  refine mv_ ?_
  obtain ⟨t3, ha4, H⟩ := bind_some H
  refine cs_ HS Try.func156 (impl_isNibble.runs k a0 t3 _  ha4) (fun w5 HS => ?_)
  clear ha4
  refine nt_ ?_
  refine as_ ?_
  refine dn_ hK2 ?_
  obtain rfl := os H
  exact rt1 Try.f155 rfl rfl hR_ ⟨rfl, HS.b⟩
def slices_IndexFunc_int_int_155.b0 (l0 : List Int) (rec_ : Int → Option (Int ⊕ Int)) (k15 : Nat) (i8 : Int) : Option (Int ⊕ Int) := (if i8 < (l0.length : Int) then (if 0 ≤ i8 ∧ i8 < (l0.length : Int) then ((impl_PackNibbles_1.g k15 (l0.getD i8.toNat 0)).bind fun t25 => (if t25 = true then (some (Sum.inl i8)) else (rec_ (wrap64 (i8 + 1))))) else none) else (some (Sum.inr i8)))
def slices_IndexFunc_int_int_155.l0 (l0 : List Int) : Nat → Int → Option (Int ⊕ Int)
  | 0, _ => none
  | k + 1, i8 => slices_IndexFunc_int_int_155.b0 l0 (slices_IndexFunc_int_int_155.l0 l0 k) k i8
def slices_IndexFunc_int_int_155.g (k : Nat) (l0 : List Int) : Option Int := ((slices_IndexFunc_int_int_155.l0 l0 k 0).bind (fun oc13 => match oc13 with | .inl r_ => some r_ | .inr i8 => (some (-1))))
theorem slices_IndexFunc_int_int_155.runs (k : Nat) (A0 : Option Addr) (c0 : Nat) (l0 : List Int) (r : Int) (w : World) (hr0 : kI.C w A0 l0.length l0) (hc0 : l0.length ≤ c0) (H : slices_IndexFunc_int_int_155.g k l0 = some r) :
    Calls Try.prog 149 #[.slice A0 l0.length c0, .func (.func 155) #[] #[]] w fun e w' => e = .returned (.int .i64 r) ∧ Below w.heap.size w w' := by
  unfold slices_IndexFunc_int_int_155.g at H
  have HS : St (fun _ => True) w w [] [(cF kI A0 l0)] [] := St.start (foot_cons (foot_C (Kd.heap_int _) hr0) foot_nil)
  refine cw_ (n := 19) Try.func149 fun R_ hR_ => ?_
  refine sr_ fun _ hK1 => ?_
  refine as_ ?_
  refine dn_ hK1 ?_
  refine WC.seq fun K2 hK2 => ?_
  refine sr_ fun _ hK3 => ?_
  refine mv_ ?_
  refine ln_ Try.underlying25 ?_
  refine mv_ ?_
  refine dn_ hK3 ?_
  refine WC.block ?_
  obtain ⟨G4, hG5, oc6, H, Ho7⟩ := open_G H
  let J9 := fun (i8 : Int) (E_ : Env) (W_ : World) => E_ = [(0, .slice A0 l0.length c0), (1, .func (.func 155) #[] #[]), (7, .int .i64 (l0.length : Int)), (8, .int .i64 i8)] ∧ St (fun _ => True) w W_ [] [(cF kI A0 l0)] []
  have X10 : ∀ E_ W_, (∃ i8, G4 (Sum.inr i8) = some r ∧ J9 i8 E_ W_) → ∀ a, Fits a 19 E_ → K2 a W_ := by
    rintro E_ w11 ⟨i8, H, rfl, HS⟩
    rw [hG5] at H
    (try dsimp only at H)
    refine hK2 _ _ ?_
    refine sr_ fun _ hK12 => ?_
    refine as_ ?_
    refine dn_ hK12 ?_
    obtain rfl := os H
    exact rt1 Try.f149 rfl rfl hR_ ⟨rfl, HS.b⟩
  refine WC.loop (fun k_ E_ W_ => ∃ i8, (∃ o_, slices_IndexFunc_int_int_155.l0 l0 k_ i8 = some o_ ∧ G4 o_ = some r) ∧ J9 i8 E_ W_) k ⟨0, ⟨_, H, Ho7⟩, rfl, HS⟩ (sb rfl) ?_
  rintro k_ E_ w14 ⟨i8, ⟨oc6, H, Ho7⟩, rfl, HS⟩
  rcases k_ with _ | k15
  · exact no_ H
  replace H : slices_IndexFunc_int_int_155.b0 l0 (slices_IndexFunc_int_int_155.l0 l0 k15) k15 i8 = some oc6 := H
  unfold slices_IndexFunc_int_int_155.b0 at H
  refine sr_ fun _ hK16 => ?_
  refine b_ bin_lss ?_
  refine dn_ hK16 ?_
  refine WC.seq fun _ hK17 => ?_
  rcases eti_ H with ⟨c18, H⟩ | ⟨c18, H⟩
  · refine wn_ (dF c18) ?_
    refine WC.exit ?_
    obtain rfl := os H
    exact WQ.via2 (fun _ _ h_ => h_) X10 ⟨i8, Ho7, rfl, HS⟩ (sb rfl)
  refine wy_ (dT c18) ?_
  refine WC.skip ?_
  refine via_ hK17 ?_
  refine WC.seq fun _ hK19 => ?_
  refine WC.block ?_
  refine sr_ fun _ hK20 => ?_
  refine mv_ ?_
  refine as_ ?_
  refine dn_ hK20 ?_
  refine sr_ fun _ hK21 => ?_
  refine mv_ ?_
  refine mv_ ?_
  refine mv_ ?_
  obtain ⟨⟨q22, q23⟩, H⟩ := if_some H
  obtain ⟨ad24, rfl⟩ := C_open (HS.getO 0 rfl) (by omega)
  refine v_ (ia_ Try.underlying25 1 q22 q23) ?_
  refine v_ (Run.load rfl rfl Try.underlying3 rfl (int_cell (HS.getO 0 rfl) i8 q22 q23)) ?_
  obtain ⟨t25, ha26, H⟩ := bind_some H
  refine cv_ (args := [.int .i64 (l0.getD i8.toNat 0)]) (cap := []) Try.func155 (impl_PackNibbles_1.runs k15 (l0.getD i8.toNat 0) t25 _  ha26) ?_
  clear ha26
  rintro _ w27 ⟨rfl, hb⟩
  replace HS := HS.below hb
  refine ⟨_, rfl, ?_⟩
  clear hb
  refine dn_ hK21 ?_
  rcases eti_ H with ⟨c28, H⟩ | ⟨c28, H⟩
  · refine wn_ (bF c28) ?_
    refine WC.skip ?_
    refine via_ hK19 ?_
    refine rg_ ?_
    refine b_ bin_add64 ?_
    refine mv_ ?_
    refine WL.done ?_
    exact WQ.round k15 (fun _ _ h_ => h_) (Nat.lt_succ_self _) ⟨(wrap64 (i8 + 1)), ⟨_, H, Ho7⟩, rfl, HS⟩ (sb rfl)
  refine wy_ c28 ?_
  refine sr_ fun _ hK29 => ?_
  refine mv_ ?_
  refine as_ ?_
  refine dn_ hK29 ?_
  refine WC.ret ?_
  obtain rfl := os H
  rw [hG5] at Ho7
  replace H : some _ = some _ := Ho7
  obtain rfl := os H
  exact fin1 Try.f149 rfl rfl hR_ ⟨rfl, HS.b⟩
def slices_ContainsFunc_int_int_155.g (k : Nat) (l0 : List Int) : Option Bool := ((slices_IndexFunc_int_int_155.g k l0).bind fun t3 => (some (decide (t3 ≥ 0))))
theorem slices_ContainsFunc_int_int_155.runs (k : Nat) (A0 : Option Addr) (c0 : Nat) (l0 : List Int) (r : Bool) (w : World) (hr0 : kI.C w A0 l0.length l0) (hc0 : l0.length ≤ c0) (H : slices_ContainsFunc_int_int_155.g k l0 = some r) :
    Calls Try.prog 125 #[.slice A0 l0.length c0, .func (.func 155) #[] #[]] w fun e w' => e = .returned (.bool r) ∧ Below w.heap.size w w' := by
  unfold slices_ContainsFunc_int_int_155.g at H
  have HS : St (fun _ => True) w w [] [(cF kI A0 l0)] [] := St.start (foot_cons (foot_C (Kd.heap_int _) hr0) foot_nil)
  refine cw_ (n := 9) Try.func125 fun R_ hR_ => ?_
  refine sr_ fun _ hK1 => ?_
  refine as_ ?_
  refine dn_ hK1 ?_
  refine sr_ fun _ hK2 => ?_
  refine mv_ ?_
  refine mv_ ?_
  obtain ⟨t3, ha4, H⟩ := bind_some H
  refine cs_ HS Try.func149 (slices_IndexFunc_int_int_155.runs k A0 c0 l0 t3 _ (HS.getO 0 rfl) hc0 ha4) (fun w5 HS => ?_)
  clear ha4
  refine b_ bin_geq ?_
  refine as_ ?_
  refine dn_ hK2 ?_
  obtain rfl := os H
  exact rt1 Try.f125 rfl rfl hR_ ⟨rfl, HS.b⟩
end Go.Proofs.Ytacbkcofcbglhaa.PFnExactFileBytes
