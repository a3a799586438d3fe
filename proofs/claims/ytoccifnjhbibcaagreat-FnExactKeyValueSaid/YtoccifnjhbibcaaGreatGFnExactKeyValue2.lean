/- Functions that the statement reaches, as Lean functions, and the proof that a call of each comes to just its answer; written by this claim's own program. No conditions. -/
import Derived.Test.YtoccifnjhbibcaaGreatGFnExactKeyValue1
namespace Go.Proofs.YtoccifnjhbibcaaGreat.PFnExactKeyValue
open Tryz
open Go.RowKit Go.Proofs.YtoccifnjhbibcaaGreatW.PrintWords Go.Proofs.YtoccifnjhbibcaaGreatW.PrintLast Go.Proofs.YtoccifnjhbibcaaGreatW.PrintMore Go.Proofs.YtoccifnjhbibcaaGreat.XW Go.Proofs.YtoccifnjhbibcaaGreat.XOp Go.Proofs.YtoccifnjhbibcaaGreat.XSt Go.Proofs.YtoccifnjhbibcaaGreat.XDraw
set_option linter.unusedVariables false
set_option linter.unusedSimpArgs false
set_option maxHeartbeats 4000000
set_option maxRecDepth 20000
def impl_MergesOk.b0 (l0 : List S114) (rec_ : Int → Option (Bool ⊕ Int)) (k27 : Nat) (i12 : Int) : Option (Bool ⊕ Int) := (if i12 < (l0.length : Int) then (if 0 ≤ i12 ∧ i12 < (l0.length : Int) then (if 0 ≤ i12 ∧ i12 ≤ (l0.length : Int) then ((slices_Contains_impl_Merge_impl_Merge.g k27 (l0.take i12.toNat) (⟨(l0.getD i12.toNat o114).f0, (l0.getD i12.toNat o114).f1⟩ : S114)).bind fun t50 => (if t50 = true then (some (Sum.inl false)) else (rec_ (wrap64 (i12 + 1))))) else none) else none) else (some (Sum.inr i12)))
def impl_MergesOk.l0 (l0 : List S114) : Nat → Int → Option (Bool ⊕ Int)
 | 0, _ => none
 | k + 1, i12 => impl_MergesOk.b0 l0 (impl_MergesOk.l0 l0 k) k i12
def impl_MergesOk.g (k : Nat) (l0 : List S114) : Option Bool := (if (l0.length : Int) > 16 then (some false) else ((impl_MergesOk.l0 l0 k 0).bind (fun oc25 => match oc25 with | .inl r_ => some r_ | .inr i12 => ((impl_sizesOf.g k l0).bind fun t17 => (some t17.2)))))
theorem impl_MergesOk.runs (k : Nat) (A0 : Option Addr) (c0 : Nat) (l0 : List S114) (r : Bool) (w : World) (hr0 : k114.C w A0 l0.length l0) (hc0 : l0.length ≤ c0) (H : impl_MergesOk.g k l0 = some r) :
   Calls prog 154 #[.slice A0 l0.length c0] w fun e w' => e = .returned (.bool r) ∧ Below w.heap.size w w' := by
 unfold impl_MergesOk.g at H
 have HS : St (fun _ => True) w w [] [(cF k114 A0 l0)] [] := St.start (foot_cons (foot_C h114 hr0) foot_nil)
 refine cw_ (n := 29) func154 fun R_ hR_ => ?_
 refine sr_ fun _ hK1 => ?_
 refine ad_ hK1 ?_
 refine WC.seq fun _ hK2 => ?_
 refine sr_ fun _ hK3 => ?_
 refine mv_ ?_
 refine ln_ underlying25 ?_
 refine b_ bin_gtr ?_
 refine dn_ hK3 ?_
 rcases ite_ H with ⟨c4, H⟩ | ⟨c4, H⟩
 · refine wy_ (dT c4) (sr_ fun _ hK5 => ?_)
   refine ad_ hK5 ?_
   obtain rfl := os H
   exact rt1 Tryz.f154 rfl rfl hR_ ⟨rfl, HS.b⟩
 refine wn_ (dF c4) (WC.skip (via_ hK2 (WC.seq fun K6 hK6 => ?_)))
 refine sr_ fun _ hK7 => ?_
 refine mv_ ?_
 refine ln_ underlying25 ?_
 refine mv_ ?_
 refine dn_ hK7 (WC.block ?_)
 obtain ⟨G8, hG9, oc10, H, Ho11⟩ := open_G H
 let J13 := fun (i12 : Int) (E_ : Env) (W_ : World) => E_ = [(0, .slice A0 l0.length c0), (10, .slice A0 l0.length c0), (11, vi (l0.length : Int)), (12, vi i12)] ∧ St (fun _ => True) w W_ [] [(cF k114 A0 l0)] []
 have X14 : ∀ E_ W_, (∃ i12, G8 (Sum.inr i12) = some r ∧ J13 i12 E_ W_) → ∀ a, Fits a 29 E_ → K6 a W_ := by
   rintro E_ w15 ⟨i12, H, rfl, HS⟩
   rw [hG9] at H
   (try dsimp only at H)
   refine hK6 _ _ ?_
   refine sr_ fun _ hK16 => ?_
   refine mv_ ?_
   obtain ⟨t17, ha18, H⟩ := bind_some H
   refine c_ func222 (impl_sizesOf.runs k A0 c0 l0 t17.1 t17.2 _ (HS.getO 0 rfl) hc0 ha18) ?_
   clear ha18
   rintro _ w19 ⟨A20, c21, rfl, le22, hf23, hb⟩
   replace HS := HS.newNs hb (foot_cons hf23 foot_nil)
   refine ⟨_, rfl, ?_⟩
   clear hb
   refine mv_ ?_
   refine v_ (Run.extract rfl rfl rfl) ?_
   refine v_ (Run.extract rfl rfl rfl) ?_
   refine as_ ?_
   refine ad_ hK16 ?_
   refine sr_ fun _ hK24 => ?_
   refine mv_ ?_
   refine ad_ hK24 ?_
   obtain rfl := os H
   exact rt1 Tryz.f154 rfl rfl hR_ ⟨rfl, HS.b⟩
 clear hK6
 refine WC.loop (fun k_ E_ W_ => ∃ i12, (∃ o_, impl_MergesOk.l0 l0 k_ i12 = some o_ ∧ G8 o_ = some r) ∧ J13 i12 E_ W_) k ⟨0, ⟨_, H, Ho11⟩, rfl, HS⟩ (sb rfl) ?_
 rintro k_ E_ w26 ⟨i12, ⟨oc10, H, Ho11⟩, rfl, HS⟩
 rcases k_ with _ | k27
 · exact no_ H
 replace H : impl_MergesOk.b0 l0 (impl_MergesOk.l0 l0 k27) k27 i12 = some oc10 := H
 unfold impl_MergesOk.b0 at H
 refine sr_ fun _ hK28 => ?_
 refine b_ bin_lss ?_
 refine dn_ hK28 (WC.seq fun _ hK29 => ?_)
 rcases eti_ H with ⟨c30, H⟩ | ⟨c30, H⟩
 · refine wn_ (dF c30) (WC.exit ?_)
   obtain rfl := os H
   exact wv_ iq X14 ⟨i12, Ho11, rfl, HS⟩
 refine wy_ (dT c30) (WC.skip (via_ hK29 (WC.seq fun _ hK31 => ?_)))
 refine WC.block (sr_ fun _ hK32 => ?_)
 refine mv_ ?_
 obtain ⟨⟨q33, q34⟩, H⟩ := if_some H
 obtain ⟨ad35, rfl⟩ := C_open (HS.getO 0 rfl) (lenpos q33 q34)
 refine v_ (ia_ underlying25 2 q33 q34) ?_
 obtain ⟨e36, el37, HS⟩ := HS.elO 0 rfl (by decide) o114 i12 q33 q34
 refine v_ (Run.loadS (cs := [vi ((l0.getD i12.toNat o114).f0), vi ((l0.getD i12.toNat o114).f1)]) rfl rfl underlying114 rfl (by kernel_rfl) (cells_part (HS.getO 0 rfl).2 (part_cons (at114_0 (AtK.whole (HS.getO 0 rfl).1)).int (part_cons (at114_1 (AtK.whole (HS.getO 0 rfl).1)).int part_nil)))) ?_
 refine WL.alloc HS (v := .agg #[vi 0, vi 0]) (cs := #[vi 0, vi 0]) rfl rfl (by decide) rfl (by kernel_rfl) rfl (fun b38 w39 hb38 HS => ?_)
 refine as_ ?_
 refine WL.storeW HS 0 rfl rfl rfl rfl rfl rfl (oneL rfl) (by kernel_rfl) rfl (fun w40 HS => ?_)
 dsimp only [List.set] at HS
 refine dn_ hK32 (WC.seq fun _ hK41 => ?_)
 refine WC.drawS HS [] rfl rfl (fun w42 HS => ?_)
 have HB := Below.refl w42.heap.size w42
 have HSW := HS
 refine dm_ 0 ?_
 refine dm_ 1 ?_
 obtain ⟨⟨q43, q44⟩, H⟩ := if_some H
 obtain ⟨A45, c46, he47, le48, hf49⟩ := slc_take k114 (some ad35) c0 l0 i12 q43 q44 hc0
 replace HS := HS.deriveO (p := (cF k114 A45 (l0.take i12.toNat))) (fun W_ hO_ hN_ => hf49 W_ hO_.2.1)
 refine dp_ 2 (fun _ => Run.eqv he47 (Run.slH rfl underlying25 (by kernel_rfl) rfl rfl q43 (Int.le_trans q44 (Int.ofNat_le.mpr hc0)))) ?_
 refine dt_ 3 (Below.refl _ _) (fun w_ hw_ => Run.loadS (cs := [vi ((l0.getD i12.toNat o114).f0), vi ((l0.getD i12.toNat o114).f1)]) rfl rfl underlying114 rfl (by kernel_rfl) (box_part ((HS.below hw_).mu 0 rfl) part_all)) ?_
 obtain ⟨t50, ha51, H⟩ := bind_some H
 refine dcs_ HS HB 4 (w_none rfl) func221 (slices_Contains_impl_Merge_impl_Merge.runs k27 A45 c46 (l0.take i12.toNat) (⟨(l0.getD i12.toNat o114).f0, (l0.getD i12.toNat o114).f1⟩ : S114) t50 _ (HS.getO 0 rfl) le48 ha51) (fun w52 HS HB => ?_)
 clear ha51
 refine dd_ ?_
 clear HB HSW
 refine via_ hK41 ?_
 rcases eti_ H with ⟨c53, H⟩ | ⟨c53, H⟩
 · refine wn_ (bF c53) (WC.skip (via_ hK31 (rg_ (b_ bin_add64 ?_))))
   refine mv_ ?_
   refine WL.done ?_
   exact wr_ k27 iq ⟨(wrap64 (i12 + 1)), ⟨_, H, Ho11⟩, rfl, (St.pk (St.forget HS 0 rfl) [2] [] rfl rfl)⟩
 refine wy_ c53 ?_
 refine sr_ fun _ hK54 => ?_
 refine ad_ hK54 ?_
 refine WC.ret ?_
 obtain rfl := os H
 rw [hG9] at Ho11
 replace H : some _ = some _ := Ho11
 obtain rfl := os H
 exact fin1 Tryz.f154 rfl rfl hR_ ⟨rfl, HS.b⟩
def impl_ModelOk_1.g (k : Nat) (l0 : List Int) (x1 : S34) : Option Bool := (if (l0.length : Int) = x1.f0 then ((impl_allIn.f l0 (-127) 127).bind fun t4 => (some (!t4))) else (some true))
theorem impl_ModelOk_1.runs (k : Nat) (A0 : Option Addr) (c0 : Nat) (l0 : List Int) (b1 : Nat) (cs1 : List Value) (x1 : S34) (r : Bool) (w : World) (hr0 : kI.C w A0 l0.length l0) (hc0 : l0.length ≤ c0) (hk1 : k34.K w x1 cs1) (hb1 : w.heap[b1]? = some (.cells cs1.toArray 34 (0, 0))) (H : impl_ModelOk_1.g k l0 x1 = some r) :
   Calls prog 156 #[.slice A0 l0.length c0, .pointer (some ⟨b1, 0, none⟩)] w fun e w' => e = .returned (.bool r) ∧ Below w.heap.size w w' := by
 have el1 : cs1.length = 14 := k34.K_len hk1
 unfold impl_ModelOk_1.g at H
 have HS : St (fun _ => True) w w [] [(cF kI A0 l0), (kF k34 x1 cs1), (fun W => W.heap[b1]? = some (.cells cs1.toArray 34 (0, 0)))] [] := St.start (foot_cons (foot_C (Kd.heap_int _) hr0) (foot_cons (foot_K h34 hk1) (foot_cons (foot_rob hb1) foot_nil)))
 refine cw_ (n := 14) func156 fun R_ hR_ => ?_
 refine sr_ fun _ hK1 => ?_
 refine ad_ hK1 ?_
 refine sr_ fun _ hK2 => ?_
 refine mv_ ?_
 refine ln_ underlying28 ?_
 refine v_ (fa_ underlying34) ?_
 refine v_ (lb_ (HS.getO 2 rfl) underlying3 (at34_0 (HS.aO 1 rfl)).int) ?_
 refine b_ bin_neq ?_
 refine mv_ ?_
 rcases eti_ H with ⟨c3, H⟩ | ⟨c3, H⟩
 · refine off_ (c' := true) (qT c3) ?_
   refine WL.know 9 (qT c3) ?_
   refine fast_ ?_
   refine via_ hK2 ?_
   obtain rfl := os H
   exact rt1 Tryz.f156 rfl rfl hR_ ⟨rfl, HS.b⟩
 refine on_ (qF c3) (mv_ ?_)
 refine on_ (qF c3) ?_
 obtain ⟨t4, ha5, H⟩ := bind_some H
 refine cs_ HS func157 (impl_allIn.calls A0 c0 l0 (-127) 127 t4 _ (HS.getO 0 rfl) hc0 ha5) (fun w6 HS => ?_)
 clear ha5
 refine on_ (qF c3) (nt_ ?_)
 refine v_ (Run.pickF rfl rfl (qF c3) rfl) ?_
 refine ad_ hK2 ?_
 obtain rfl := os H
 exact rt1 Tryz.f156 rfl rfl hR_ ⟨rfl, HS.b⟩
def slices_IndexFunc_int_int_156.b0 (l0 : List (List Int)) (x1c0 : S34) (rec_ : Int → Option (Int ⊕ Int)) (k15 : Nat) (i8 : Int) : Option (Int ⊕ Int) := (if i8 < (l0.length : Int) then (if 0 ≤ i8 ∧ i8 < (l0.length : Int) then ((impl_ModelOk_1.g k15 (l0.getD i8.toNat []) x1c0).bind fun t28 => (if t28 = true then (some (Sum.inl i8)) else (rec_ (wrap64 (i8 + 1))))) else none) else (some (Sum.inr i8)))
def slices_IndexFunc_int_int_156.l0 (l0 : List (List Int)) (x1c0 : S34) : Nat → Int → Option (Int ⊕ Int)
 | 0, _ => none
 | k + 1, i8 => slices_IndexFunc_int_int_156.b0 l0 x1c0 (slices_IndexFunc_int_int_156.l0 l0 x1c0 k) k i8
def slices_IndexFunc_int_int_156.g (k : Nat) (l0 : List (List Int)) (x1c0 : S34) : Option Int := ((slices_IndexFunc_int_int_156.l0 l0 x1c0 k 0).bind (fun oc13 => match oc13 with | .inl r_ => some r_ | .inr i8 => (some (-1))))
theorem slices_IndexFunc_int_int_156.runs (k : Nat) (A0 : Option Addr) (c0 : Nat) (l0 : List (List Int)) (b1c0 : Nat) (cs1c0 : List Value) (x1c0 : S34) (r : Int) (w : World) (hr0 : kS3.C w A0 l0.length l0) (hc0 : l0.length ≤ c0) (hk1c0 : k34.K w x1c0 cs1c0) (hb1c0 : w.heap[b1c0]? = some (.cells cs1c0.toArray 34 (0, 0))) (H : slices_IndexFunc_int_int_156.g k l0 x1c0 = some r) :
   Calls prog 223 #[.slice A0 l0.length c0, .func (.func 156) #[] #[.pointer (some ⟨b1c0, 0, none⟩)]] w fun e w' => e = .returned (vi r) ∧ Below w.heap.size w w' := by
 have el1c0 : cs1c0.length = 14 := k34.K_len hk1c0
 unfold slices_IndexFunc_int_int_156.g at H
 have HS : St (fun _ => True) w w [] [(cF kS3 A0 l0), (kF k34 x1c0 cs1c0), (fun W => W.heap[b1c0]? = some (.cells cs1c0.toArray 34 (0, 0)))] [] := St.start (foot_cons (foot_C (Kd.heap_slice _ (Kd.heap_int _)) hr0) (foot_cons (foot_K h34 hk1c0) (foot_cons (foot_rob hb1c0) foot_nil)))
 refine cw_ (n := 19) func223 fun R_ hR_ => ?_
 refine sr_ fun _ hK1 => ?_
 refine ad_ hK1 ?_
 refine WC.seq fun K2 hK2 => ?_
 refine sr_ fun _ hK3 => ?_
 refine mv_ ?_
 refine ln_ underlying26 ?_
 refine mv_ ?_
 refine dn_ hK3 (WC.block ?_)
 obtain ⟨G4, hG5, oc6, H, Ho7⟩ := open_G H
 let J9 := fun (i8 : Int) (E_ : Env) (W_ : World) => E_ = [(0, .slice A0 l0.length c0), (1, .func (.func 156) #[] #[.pointer (some ⟨b1c0, 0, none⟩)]), (7, vi (l0.length : Int)), (8, vi i8)] ∧ St (fun _ => True) w W_ [] [(cF kS3 A0 l0), (kF k34 x1c0 cs1c0), (fun W => W.heap[b1c0]? = some (.cells cs1c0.toArray 34 (0, 0)))] []
 have X10 : ∀ E_ W_, (∃ i8, G4 (Sum.inr i8) = some r ∧ J9 i8 E_ W_) → ∀ a, Fits a 19 E_ → K2 a W_ := by
   rintro E_ w11 ⟨i8, H, rfl, HS⟩
   rw [hG5] at H
   (try dsimp only at H)
   refine hK2 _ _ ?_
   refine sr_ fun _ hK12 => ?_
   refine ad_ hK12 ?_
   obtain rfl := os H
   exact rt1 Tryz.f223 rfl rfl hR_ ⟨rfl, HS.b⟩
 clear hK2
 refine WC.loop (fun k_ E_ W_ => ∃ i8, (∃ o_, slices_IndexFunc_int_int_156.l0 l0 x1c0 k_ i8 = some o_ ∧ G4 o_ = some r) ∧ J9 i8 E_ W_) k ⟨0, ⟨_, H, Ho7⟩, rfl, HS⟩ (sb rfl) ?_
 rintro k_ E_ w14 ⟨i8, ⟨oc6, H, Ho7⟩, rfl, HS⟩
 rcases k_ with _ | k15
 · exact no_ H
 replace H : slices_IndexFunc_int_int_156.b0 l0 x1c0 (slices_IndexFunc_int_int_156.l0 l0 x1c0 k15) k15 i8 = some oc6 := H
 unfold slices_IndexFunc_int_int_156.b0 at H
 refine sr_ fun _ hK16 => ?_
 refine b_ bin_lss ?_
 refine dn_ hK16 (WC.seq fun _ hK17 => ?_)
 rcases eti_ H with ⟨c18, H⟩ | ⟨c18, H⟩
 · refine wn_ (dF c18) (WC.exit ?_)
   obtain rfl := os H
   exact wv_ iq X10 ⟨i8, Ho7, rfl, HS⟩
 refine wy_ (dT c18) (WC.skip (via_ hK17 (WC.seq fun _ hK19 => ?_)))
 refine WC.block (sr_ fun _ hK20 => ?_)
 refine mv_ ?_
 refine ad_ hK20 ?_
 refine sr_ fun _ hK21 => ?_
 refine mv_ ?_
 refine mv_ ?_
 refine mv_ ?_
 obtain ⟨⟨q22, q23⟩, H⟩ := if_some H
 obtain ⟨ad24, rfl⟩ := C_open (HS.getO 0 rfl) (lenpos q22 q23)
 refine v_ (ia_ underlying26 1 q22 q23) ?_
 obtain ⟨A25, c26, le27, HS⟩ := HS.slO 0 rfl i8 q22 q23
 refine v_ (Run.load rfl rfl underlying28 rfl (HS.getO 1 rfl)) ?_
 obtain ⟨t28, ha29, H⟩ := bind_some H
 refine cv_ (args := [.slice A25 ((l0.getD i8.toNat []).length) c26]) (cap := [.pointer (some ⟨b1c0, 0, none⟩)]) func156 (impl_ModelOk_1.runs k15 A25 c26 (l0.getD i8.toNat []) b1c0 cs1c0 x1c0 t28 _ (HS.getO 0 rfl) le27 (HS.getO 3 rfl) (HS.getO 4 rfl) ha29) ?_
 clear ha29
 rintro _ w30 ⟨rfl, hb⟩
 replace HS := HS.below hb
 refine ⟨_, rfl, ?_⟩
 clear hb
 refine dn_ hK21 ?_
 rcases eti_ H with ⟨c31, H⟩ | ⟨c31, H⟩
 · refine wn_ (bF c31) (WC.skip (via_ hK19 (rg_ (b_ bin_add64 ?_))))
   refine mv_ ?_
   refine WL.done ?_
   exact wr_ k15 iq ⟨(wrap64 (i8 + 1)), ⟨_, H, Ho7⟩, rfl, (St.pk HS [2, 3, 4] [] rfl rfl)⟩
 refine wy_ c31 ?_
 refine sr_ fun _ hK32 => ?_
 refine mv_ ?_
 refine ad_ hK32 ?_
 refine WC.ret ?_
 obtain rfl := os H
 rw [hG5] at Ho7
 replace H : some _ = some _ := Ho7
 obtain rfl := os H
 exact fin1 Tryz.f223 rfl rfl hR_ ⟨rfl, HS.b⟩
def slices_ContainsFunc_int_int_156.g (k : Nat) (l0 : List (List Int)) (x1c0 : S34) : Option Bool := ((slices_IndexFunc_int_int_156.g k l0 x1c0).bind fun t3 => (some (decide (t3 ≥ 0))))
theorem slices_ContainsFunc_int_int_156.runs (k : Nat) (A0 : Option Addr) (c0 : Nat) (l0 : List (List Int)) (b1c0 : Nat) (cs1c0 : List Value) (x1c0 : S34) (r : Bool) (w : World) (hr0 : kS3.C w A0 l0.length l0) (hc0 : l0.length ≤ c0) (hk1c0 : k34.K w x1c0 cs1c0) (hb1c0 : w.heap[b1c0]? = some (.cells cs1c0.toArray 34 (0, 0))) (H : slices_ContainsFunc_int_int_156.g k l0 x1c0 = some r) :
   Calls prog 155 #[.slice A0 l0.length c0, .func (.func 156) #[] #[.pointer (some ⟨b1c0, 0, none⟩)]] w fun e w' => e = .returned (.bool r) ∧ Below w.heap.size w w' := by
 have el1c0 : cs1c0.length = 14 := k34.K_len hk1c0
 unfold slices_ContainsFunc_int_int_156.g at H
 have HS : St (fun _ => True) w w [] [(cF kS3 A0 l0), (kF k34 x1c0 cs1c0), (fun W => W.heap[b1c0]? = some (.cells cs1c0.toArray 34 (0, 0)))] [] := St.start (foot_cons (foot_C (Kd.heap_slice _ (Kd.heap_int _)) hr0) (foot_cons (foot_K h34 hk1c0) (foot_cons (foot_rob hb1c0) foot_nil)))
 refine cw_ (n := 9) func155 fun R_ hR_ => ?_
 refine sr_ fun _ hK1 => ?_
 refine ad_ hK1 ?_
 refine sr_ fun _ hK2 => ?_
 refine mv_ ?_
 refine mv_ ?_
 obtain ⟨t3, ha4, H⟩ := bind_some H
 refine cs_ HS func223 (slices_IndexFunc_int_int_156.runs k A0 c0 l0 b1c0 cs1c0 x1c0 t3 _ (HS.getO 0 rfl) hc0 (HS.getO 1 rfl) (HS.getO 2 rfl) ha4) (fun w5 HS => ?_)
 clear ha4
 refine b_ bin_geq ?_
 refine ad_ hK2 ?_
 obtain rfl := os H
 exact rt1 Tryz.f155 rfl rfl hR_ ⟨rfl, HS.b⟩
def impl_ModelOk_2.g (k : Nat) (x0 : S118) (x1 : S34) : Option Bool := ((impl_LayerOk.g k x0 x1.f0).bind fun t5 => (some (!t5)))
theorem impl_ModelOk_2.runs (k : Nat) (cs0 : List Value) (x0 : S118) (b1 : Nat) (cs1 : List Value) (x1 : S34) (r : Bool) (w : World) (hk0 : k118.K w x0 cs0) (hk1 : k34.K w x1 cs1) (hb1 : w.heap[b1]? = some (.cells cs1.toArray 34 (0, 0))) (H : impl_ModelOk_2.g k x0 x1 = some r) :
   Calls prog 159 #[.agg cs0.toArray, .pointer (some ⟨b1, 0, none⟩)] w fun e w' => e = .returned (.bool r) ∧ Below w.heap.size w w' := by
 have el0 : cs0.length = 32 := k118.K_len hk0
 have el1 : cs1.length = 14 := k34.K_len hk1
 unfold impl_ModelOk_2.g at H
 have HS : St (fun _ => True) w w [] [(kF k118 x0 cs0), (kF k34 x1 cs1), (fun W => W.heap[b1]? = some (.cells cs1.toArray 34 (0, 0)))] [] := St.start (foot_cons (foot_K h118 hk0) (foot_cons (foot_K h34 hk1) (foot_cons (foot_rob hb1) foot_nil)))
 refine cw_ (n := 9) func159 fun R_ hR_ => ?_
 refine sr_ fun _ hK1 => ?_
 refine bo_ HS (fun b2 w3 hb2 HS => ?_)
 refine ad_ hK1 ?_
 refine sr_ fun _ hK4 => ?_
 refine v_ (Run.loadS (cs := cs0) rfl rfl underlying118 rfl (by rw [el0]; kernel_rfl) (box_part (HS.mu 0 rfl) part_all)) ?_
 refine v_ (fa_ underlying34) ?_
 refine v_ (lb_ (HS.getO 2 rfl) underlying3 (at34_0 (HS.aO 1 rfl)).int) ?_
 obtain ⟨t5, ha6, H⟩ := bind_some H
 refine cs_ HS func160 (impl_LayerOk.runs k cs0 x0 x1.f0 t5 _ (HS.getO 0 rfl) ha6) (fun w7 HS => ?_)
 clear ha6
 refine nt_ ?_
 refine ad_ hK4 ?_
 obtain rfl := os H
 exact rt1 Tryz.f159 rfl rfl hR_ ⟨rfl, HS.b⟩
def slices_IndexFunc_impl_Layer_impl_Layer_159.b0 (l0 : List S118) (x1c0 : S34) (rec_ : Int → Option (Int ⊕ Int)) (k15 : Nat) (i8 : Int) : Option (Int ⊕ Int) := (if i8 < (l0.length : Int) then (if 0 ≤ i8 ∧ i8 < (l0.length : Int) then ((impl_ModelOk_2.g k15 (l0.getD i8.toNat o118) x1c0).bind fun t27 => (if t27 = true then (some (Sum.inl i8)) else (rec_ (wrap64 (i8 + 1))))) else none) else (some (Sum.inr i8)))
def slices_IndexFunc_impl_Layer_impl_Layer_159.l0 (l0 : List S118) (x1c0 : S34) : Nat → Int → Option (Int ⊕ Int)
 | 0, _ => none
 | k + 1, i8 => slices_IndexFunc_impl_Layer_impl_Layer_159.b0 l0 x1c0 (slices_IndexFunc_impl_Layer_impl_Layer_159.l0 l0 x1c0 k) k i8
def slices_IndexFunc_impl_Layer_impl_Layer_159.g (k : Nat) (l0 : List S118) (x1c0 : S34) : Option Int := ((slices_IndexFunc_impl_Layer_impl_Layer_159.l0 l0 x1c0 k 0).bind (fun oc13 => match oc13 with | .inl r_ => some r_ | .inr i8 => (some (-1))))
theorem slices_IndexFunc_impl_Layer_impl_Layer_159.runs (k : Nat) (A0 : Option Addr) (c0 : Nat) (l0 : List S118) (b1c0 : Nat) (cs1c0 : List Value) (x1c0 : S34) (r : Int) (w : World) (hr0 : k118.C w A0 l0.length l0) (hc0 : l0.length ≤ c0) (hk1c0 : k34.K w x1c0 cs1c0) (hb1c0 : w.heap[b1c0]? = some (.cells cs1c0.toArray 34 (0, 0))) (H : slices_IndexFunc_impl_Layer_impl_Layer_159.g k l0 x1c0 = some r) :
   Calls prog 226 #[.slice A0 l0.length c0, .func (.func 159) #[] #[.pointer (some ⟨b1c0, 0, none⟩)]] w fun e w' => e = .returned (vi r) ∧ Below w.heap.size w w' := by
 have el1c0 : cs1c0.length = 14 := k34.K_len hk1c0
 unfold slices_IndexFunc_impl_Layer_impl_Layer_159.g at H
 have HS : St (fun _ => True) w w [] [(cF k118 A0 l0), (kF k34 x1c0 cs1c0), (fun W => W.heap[b1c0]? = some (.cells cs1c0.toArray 34 (0, 0)))] [] := St.start (foot_cons (foot_C h118 hr0) (foot_cons (foot_K h34 hk1c0) (foot_cons (foot_rob hb1c0) foot_nil)))
 refine cw_ (n := 19) func226 fun R_ hR_ => ?_
 refine sr_ fun _ hK1 => ?_
 refine ad_ hK1 ?_
 refine WC.seq fun K2 hK2 => ?_
 refine sr_ fun _ hK3 => ?_
 refine mv_ ?_
 refine ln_ underlying27 ?_
 refine mv_ ?_
 refine dn_ hK3 (WC.block ?_)
 obtain ⟨G4, hG5, oc6, H, Ho7⟩ := open_G H
 let J9 := fun (i8 : Int) (E_ : Env) (W_ : World) => E_ = [(0, .slice A0 l0.length c0), (1, .func (.func 159) #[] #[.pointer (some ⟨b1c0, 0, none⟩)]), (7, vi (l0.length : Int)), (8, vi i8)] ∧ St (fun _ => True) w W_ [] [(cF k118 A0 l0), (kF k34 x1c0 cs1c0), (fun W => W.heap[b1c0]? = some (.cells cs1c0.toArray 34 (0, 0)))] []
 have X10 : ∀ E_ W_, (∃ i8, G4 (Sum.inr i8) = some r ∧ J9 i8 E_ W_) → ∀ a, Fits a 19 E_ → K2 a W_ := by
   rintro E_ w11 ⟨i8, H, rfl, HS⟩
   rw [hG5] at H
   (try dsimp only at H)
   refine hK2 _ _ ?_
   refine sr_ fun _ hK12 => ?_
   refine ad_ hK12 ?_
   obtain rfl := os H
   exact rt1 Tryz.f226 rfl rfl hR_ ⟨rfl, HS.b⟩
 clear hK2
 refine WC.loop (fun k_ E_ W_ => ∃ i8, (∃ o_, slices_IndexFunc_impl_Layer_impl_Layer_159.l0 l0 x1c0 k_ i8 = some o_ ∧ G4 o_ = some r) ∧ J9 i8 E_ W_) k ⟨0, ⟨_, H, Ho7⟩, rfl, HS⟩ (sb rfl) ?_
 rintro k_ E_ w14 ⟨i8, ⟨oc6, H, Ho7⟩, rfl, HS⟩
 rcases k_ with _ | k15
 · exact no_ H
 replace H : slices_IndexFunc_impl_Layer_impl_Layer_159.b0 l0 x1c0 (slices_IndexFunc_impl_Layer_impl_Layer_159.l0 l0 x1c0 k15) k15 i8 = some oc6 := H
 unfold slices_IndexFunc_impl_Layer_impl_Layer_159.b0 at H
 refine sr_ fun _ hK16 => ?_
 refine b_ bin_lss ?_
 refine dn_ hK16 (WC.seq fun _ hK17 => ?_)
 rcases eti_ H with ⟨c18, H⟩ | ⟨c18, H⟩
 · refine wn_ (dF c18) (WC.exit ?_)
   obtain rfl := os H
   exact wv_ iq X10 ⟨i8, Ho7, rfl, HS⟩
 refine wy_ (dT c18) (WC.skip (via_ hK17 (WC.seq fun _ hK19 => ?_)))
 refine WC.block (sr_ fun _ hK20 => ?_)
 refine mv_ ?_
 refine ad_ hK20 ?_
 refine sr_ fun _ hK21 => ?_
 refine mv_ ?_
 refine mv_ ?_
 refine mv_ ?_
 obtain ⟨⟨q22, q23⟩, H⟩ := if_some H
 obtain ⟨ad24, rfl⟩ := C_open (HS.getO 0 rfl) (lenpos q22 q23)
 refine v_ (ia_ underlying27 32 q22 q23) ?_
 obtain ⟨e25, el26, HS⟩ := HS.elO 0 rfl (by decide) o118 i8 q22 q23
 replace HS := HS.deriveO (p := (kF k118 (l0.getD i8.toNat o118) e25)) (fun W_ hO_ hN_ => hO_.1.1)
 refine v_ (Run.loadS (cs := e25) rfl rfl underlying118 rfl (by rw [el26]; kernel_rfl) (HS.getO 1 rfl).2) ?_
 obtain ⟨t27, ha28, H⟩ := bind_some H
 refine cv_ (args := [.agg e25.toArray]) (cap := [.pointer (some ⟨b1c0, 0, none⟩)]) func159 (impl_ModelOk_2.runs k15 e25 (l0.getD i8.toNat o118) b1c0 cs1c0 x1c0 t27 _ (HS.getO 0 rfl) (HS.getO 3 rfl) (HS.getO 4 rfl) ha28) ?_
 clear ha28
 rintro _ w29 ⟨rfl, hb⟩
 replace HS := HS.below hb
 refine ⟨_, rfl, ?_⟩
 clear hb
 refine dn_ hK21 ?_
 rcases eti_ H with ⟨c30, H⟩ | ⟨c30, H⟩
 · refine wn_ (bF c30) (WC.skip (via_ hK19 (rg_ (b_ bin_add64 ?_))))
   refine mv_ ?_
   refine WL.done ?_
   exact wr_ k15 iq ⟨(wrap64 (i8 + 1)), ⟨_, H, Ho7⟩, rfl, (St.pk HS [2, 3, 4] [] rfl rfl)⟩
 refine wy_ c30 ?_
 refine sr_ fun _ hK31 => ?_
 refine mv_ ?_
 refine ad_ hK31 ?_
 refine WC.ret ?_
 obtain rfl := os H
 rw [hG5] at Ho7
 replace H : some _ = some _ := Ho7
 obtain rfl := os H
 exact fin1 Tryz.f226 rfl rfl hR_ ⟨rfl, HS.b⟩
def slices_ContainsFunc_impl_Layer_impl_Layer_159.g (k : Nat) (l0 : List S118) (x1c0 : S34) : Option Bool := ((slices_IndexFunc_impl_Layer_impl_Layer_159.g k l0 x1c0).bind fun t3 => (some (decide (t3 ≥ 0))))
theorem slices_ContainsFunc_impl_Layer_impl_Layer_159.runs (k : Nat) (A0 : Option Addr) (c0 : Nat) (l0 : List S118) (b1c0 : Nat) (cs1c0 : List Value) (x1c0 : S34) (r : Bool) (w : World) (hr0 : k118.C w A0 l0.length l0) (hc0 : l0.length ≤ c0) (hk1c0 : k34.K w x1c0 cs1c0) (hb1c0 : w.heap[b1c0]? = some (.cells cs1c0.toArray 34 (0, 0))) (H : slices_ContainsFunc_impl_Layer_impl_Layer_159.g k l0 x1c0 = some r) :
   Calls prog 158 #[.slice A0 l0.length c0, .func (.func 159) #[] #[.pointer (some ⟨b1c0, 0, none⟩)]] w fun e w' => e = .returned (.bool r) ∧ Below w.heap.size w w' := by
 have el1c0 : cs1c0.length = 14 := k34.K_len hk1c0
 unfold slices_ContainsFunc_impl_Layer_impl_Layer_159.g at H
 have HS : St (fun _ => True) w w [] [(cF k118 A0 l0), (kF k34 x1c0 cs1c0), (fun W => W.heap[b1c0]? = some (.cells cs1c0.toArray 34 (0, 0)))] [] := St.start (foot_cons (foot_C h118 hr0) (foot_cons (foot_K h34 hk1c0) (foot_cons (foot_rob hb1c0) foot_nil)))
 refine cw_ (n := 9) func158 fun R_ hR_ => ?_
 refine sr_ fun _ hK1 => ?_
 refine ad_ hK1 ?_
 refine sr_ fun _ hK2 => ?_
 refine mv_ ?_
 refine mv_ ?_
 obtain ⟨t3, ha4, H⟩ := bind_some H
 refine cs_ HS func226 (slices_IndexFunc_impl_Layer_impl_Layer_159.runs k A0 c0 l0 b1c0 cs1c0 x1c0 t3 _ (HS.getO 0 rfl) hc0 (HS.getO 1 rfl) (HS.getO 2 rfl) ha4) (fun w5 HS => ?_)
 clear ha4
 refine b_ bin_geq ?_
 refine ad_ hK2 ?_
 obtain rfl := os H
 exact rt1 Tryz.f158 rfl rfl hR_ ⟨rfl, HS.b⟩
def impl_ModelOk.g (k : Nat) (x0 : S34) : Option Bool := ((impl_isWidth.f x0.f0).bind fun t7 => (if t7 = true then ((impl_in.f x0.f1 1 2).bind fun t11 => (if t11 = true then ((impl_MergesOk.g k x0.f3).bind fun t19 => (if t19 = true then ((impl_Vocab.g k x0).bind fun t27 => (if (x0.f4.length : Int) = t27 then ((impl_in.f (x0.f5.length : Int) 1 2).bind fun t35 => (if t35 = true then ((slices_ContainsFunc_int_int_156.g k x0.f4 x0).bind fun t41 => (if t41 = true then (some false) else ((slices_ContainsFunc_impl_Layer_impl_Layer_159.g k x0.f5 x0).bind fun t48 => (if t48 = true then (some false) else ((impl_GainOk.g k x0.f6 x0.f0).bind fun t59 => (if t59 = true then ((impl_Vocab.g k x0).bind fun t71 => ((impl_withinBudget.g k x0.f7 x0.f0 t71).bind fun t74 => (if t74 = true then (if x0.f1 ≠ 0 then ((impl_TurnsOk.g k x0.f8 x0.f2 (wrap64 (Int.tdiv (wrap64 (Int.tdiv x0.f0 x0.f1)) 2))).bind fun t87 => (some t87)) else none) else (some false)))) else (some false))))))) else (some false))) else (some false))) else (some false))) else (some false))) else (some false)))
theorem impl_ModelOk.runs (k : Nat) (cs0 : List Value) (x0 : S34) (r : Bool) (w : World) (hk0 : k34.K w x0 cs0) (H : impl_ModelOk.g k x0 = some r) :
   Calls prog 68 #[.agg cs0.toArray] w fun e w' => e = .returned (.bool r) ∧ Below w.heap.size w w' := by
 have el0 : cs0.length = 14 := k34.K_len hk0
 unfold impl_ModelOk.g at H
 have HS : St (fun _ => True) w w [] [(kF k34 x0 cs0)] [] := St.start (foot_cons (foot_K h34 hk0) foot_nil)
 refine cw_ (n := 69) func68 fun R_ hR_ => ?_
 refine sr_ fun _ hK1 => ?_
 refine bo_ HS (fun b2 w3 hb2 HS => ?_)
 refine ad_ hK1 ?_
 refine WC.seq fun _ hK4 => ?_
 refine WC.seq fun _ hK5 => ?_
 refine WC.drawS HS [] rfl rfl (fun w6 HS => ?_)
 have HB := Below.refl w6.heap.size w6
 have HSW := HS
 refine df_ 0 underlying34 ?_
 refine bl_ 1 HS (Below.refl _ _) 0 underlying3 (at34_0 (HS.aO 0 rfl)).int ?_
 obtain ⟨t7, ha8, H⟩ := bind_some H
 refine dcs0_ HS HB 2 (w_none rfl) func143 (impl_isWidth.calls x0.f0 t7 _ ha8) (fun w9 HS HB => ?_)
 clear ha8
 refine dp_ 3 (fun _ => Run.not rfl rfl) ?_
 refine dm_ 4 ?_
 rcases eti_ H with ⟨c10, H⟩ | ⟨c10, H⟩
 · refine doTs_ 4 7 [5, 6, 7, 8] [8, 9, 10, 11] (nB (bF c10)) ?_
   refine dp_ 9 (fun _ => Run.pickT rfl rfl (nB (bF c10)) rfl) ?_
   refine dm_ 10 ?_
   refine doTs_ 4 13 [11, 12, 13, 14] [14, 15, 16, 17] rfl ?_
   refine dp_ 15 (fun _ => Run.pickT rfl rfl rfl rfl) ?_
   refine dm_ 16 ?_
   refine doTs_ 6 19 [17, 18, 19, 20, 21, 22] [20, 21, 22, 23, 24, 25] rfl ?_
   refine dp_ 23 (fun _ => Run.pickT rfl rfl rfl rfl) ?_
   refine dm_ 24 ?_
   refine doTs_ 5 27 [25, 26, 27, 28, 29] [28, 29, 30, 31, 32] rfl ?_
   refine dp_ 30 (fun _ => Run.pickT rfl rfl rfl rfl) ?_
   refine dd_ ?_
   clear HB HSW
   refine via_ hK5 (wy_ rfl ?_)
   refine sr_ fun _ hK94 => ?_
   refine ad_ hK94 ?_
   obtain rfl := os H
   exact rt1 Tryz.f68 rfl rfl hR_ ⟨rfl, HS.b⟩
 refine dfg_ 5 (nB c10) underlying34 ?_
 refine blg_ 6 (nB c10) HSW HB 0 underlying3 (at34_1 (HSW.aO 0 rfl)).int ?_
 obtain ⟨t11, ha12, H⟩ := bind_some H
 refine dcs0_ HS HB 7 (w_on rfl rfl rfl (nB c10)) func139 (impl_in.calls x0.f1 1 2 t11 _ ha12) (fun w13 HS HB => ?_)
 clear ha12
 refine dg_ 8 (nB c10) (fun _ => Run.not rfl rfl) ?_
 refine dp_ 9 (fun _ => Run.pickF rfl rfl (nB c10) rfl) ?_
 refine dm_ 10 ?_
 rcases eti_ H with ⟨c14, H⟩ | ⟨c14, H⟩
 · refine doTs_ 4 13 [11, 12, 13, 14] [14, 15, 16, 17] (nB (bF c14)) ?_
   refine dp_ 15 (fun _ => Run.pickT rfl rfl (nB (bF c14)) rfl) ?_
   refine dm_ 16 ?_
   refine doTs_ 6 19 [17, 18, 19, 20, 21, 22] [20, 21, 22, 23, 24, 25] rfl ?_
   refine dp_ 23 (fun _ => Run.pickT rfl rfl rfl rfl) ?_
   refine dm_ 24 ?_
   refine doTs_ 5 27 [25, 26, 27, 28, 29] [28, 29, 30, 31, 32] rfl ?_
   refine dp_ 30 (fun _ => Run.pickT rfl rfl rfl rfl) ?_
   refine dd_ ?_
   clear HB HSW
   refine via_ hK5 (wy_ rfl ?_)
   refine sr_ fun _ hK93 => ?_
   refine ad_ hK93 ?_
   obtain rfl := os H
   exact rt1 Tryz.f68 rfl rfl hR_ ⟨rfl, HS.b⟩
 refine dfg_ 11 (nB c14) underlying34 ?_
 obtain ⟨A15, c16, hc17, le18, HS⟩ := HS.sO 0 rfl at34_3
 refine blg_ 12 (nB c14) HSW HB 0 underlying25 hc17 ?_
 obtain ⟨t19, ha20, H⟩ := bind_some H
 refine dcs_ HS HB 13 (w_on rfl rfl rfl (nB c14)) func154 (impl_MergesOk.runs k A15 c16 x0.f3 t19 _ (HS.getO 0 rfl) le18 ha20) (fun w21 HS HB => ?_)
 clear ha20
 refine dg_ 14 (nB c14) (fun _ => Run.not rfl rfl) ?_
 refine dp_ 15 (fun _ => Run.pickF rfl rfl (nB c14) rfl) ?_
 refine dm_ 16 ?_
 rcases eti_ H with ⟨c22, H⟩ | ⟨c22, H⟩
 · refine doTs_ 6 19 [17, 18, 19, 20, 21, 22] [20, 21, 22, 23, 24, 25] (nB (bF c22)) ?_
   refine dp_ 23 (fun _ => Run.pickT rfl rfl (nB (bF c22)) rfl) ?_
   refine dm_ 24 ?_
   refine doTs_ 5 27 [25, 26, 27, 28, 29] [28, 29, 30, 31, 32] rfl ?_
   refine dp_ 30 (fun _ => Run.pickT rfl rfl rfl rfl) ?_
   refine dd_ ?_
   clear HB HSW
   refine via_ hK5 (wy_ rfl ?_)
   refine sr_ fun _ hK92 => ?_
   refine ad_ hK92 ?_
   obtain rfl := os H
   exact rt1 Tryz.f68 rfl rfl hR_ ⟨rfl, HS.b⟩
 refine dfg_ 17 (nB c22) underlying34 ?_
 obtain ⟨A23, c24, hc25, le26, HS⟩ := HS.sO 1 rfl at34_4
 refine blg_ 18 (nB c22) HSW HB 0 underlying26 hc25 ?_
 refine dg_ 19 (nB c22) (fun _ => Run.len (ts := #[]) rfl underlying26 rfl) ?_
 refine dh_ 20 (nB c22) HB (fun w_ hw_ => Run.loadS (cs := cs0) rfl rfl underlying34 rfl (by rw [el0]; kernel_rfl) (box_part ((HSW.below hw_).mu 0 rfl) part_all)) ?_
 obtain ⟨t27, ha28, H⟩ := bind_some H
 refine dcs_ HS HB 21 (w_on rfl rfl rfl (nB c22)) func45 (impl_Vocab.runs k cs0 x0 t27 _ (HS.getO 2 rfl) ha28) (fun w29 HS HB => ?_)
 clear ha28
 refine dg_ 22 (nB c22) (fun _ => Run.bin rfl rfl rfl bin_neq) ?_
 refine dp_ 23 (fun _ => Run.pickF rfl rfl (nB c22) rfl) ?_
 refine dm_ 24 ?_
 rcases eti_ H with ⟨c30, H⟩ | ⟨c30, H⟩
 · refine doTs_ 5 27 [25, 26, 27, 28, 29] [28, 29, 30, 31, 32] (qT c30) ?_
   refine dp_ 30 (fun _ => Run.pickT rfl rfl (qT c30) rfl) ?_
   refine dd_ ?_
   clear HB HSW
   refine via_ hK5 (wy_ rfl ?_)
   refine sr_ fun _ hK91 => ?_
   refine ad_ hK91 ?_
   obtain rfl := os H
   exact rt1 Tryz.f68 rfl rfl hR_ ⟨rfl, HS.b⟩
 refine dfg_ 25 (qF c30) underlying34 ?_
 obtain ⟨A31, c32, hc33, le34, HS⟩ := HS.sO 2 rfl at34_5
 refine blg_ 26 (qF c30) HSW HB 0 underlying27 hc33 ?_
 refine dg_ 27 (qF c30) (fun _ => Run.len (ts := #[]) rfl underlying27 rfl) ?_
 obtain ⟨t35, ha36, H⟩ := bind_some H
 refine dcs0_ HS HB 28 (w_on rfl rfl rfl (qF c30)) func139 (impl_in.calls (x0.f5.length : Int) 1 2 t35 _ ha36) (fun w37 HS HB => ?_)
 clear ha36
 refine dg_ 29 (qF c30) (fun _ => Run.not rfl rfl) ?_
 refine dp_ 30 (fun _ => Run.pickF rfl rfl (qF c30) rfl) ?_
 refine dd_ ?_
 clear HB HSW
 refine via_ hK5 ?_
 rcases eti_ H with ⟨c38, H⟩ | ⟨c38, H⟩
 · refine wy_ (nB (bF c38)) (sr_ fun _ hK90 => ?_)
   refine ad_ hK90 ?_
   obtain rfl := os H
   exact rt1 Tryz.f68 rfl rfl hR_ ⟨rfl, HS.b⟩
 refine wn_ (nB c38) (WC.skip (via_ hK4 (WC.seq fun _ hK39 => ?_)))
 refine sr_ fun _ hK40 => ?_
 refine v_ (fa_ underlying34) ?_
 refine v_ (lb_ (HS.mu 0 rfl) underlying26 hc25) ?_
 refine v_ (Run.makeFunc (cap := [.pointer (some ⟨b2, 0, none⟩)]) rfl rfl) ?_
 obtain ⟨t41, ha42, H⟩ := bind_some H
 refine cs_ HS func155 (slices_ContainsFunc_int_int_156.runs k A23 c24 x0.f4 b2 cs0 x0 t41 _ (HS.getO 1 rfl) le26 (HS.getO 3 rfl) (HS.mu 0 rfl) ha42) (fun w43 HS => ?_)
 clear ha42
 refine dn_ hK40 ?_
 rcases ite_ H with ⟨c44, H⟩ | ⟨c44, H⟩
 · refine wy_ c44 ?_
   refine sr_ fun _ hK45 => ?_
   refine ad_ hK45 ?_
   obtain rfl := os H
   exact rt1 Tryz.f68 rfl rfl hR_ ⟨rfl, HS.b⟩
 refine wn_ (bF c44) (WC.skip (via_ hK39 (WC.seq fun _ hK46 => ?_)))
 refine sr_ fun _ hK47 => ?_
 refine v_ (fa_ underlying34) ?_
 refine v_ (lb_ (HS.mu 0 rfl) underlying27 hc33) ?_
 refine v_ (Run.makeFunc (cap := [.pointer (some ⟨b2, 0, none⟩)]) rfl rfl) ?_
 obtain ⟨t48, ha49, H⟩ := bind_some H
 refine cs_ HS func158 (slices_ContainsFunc_impl_Layer_impl_Layer_159.runs k A31 c32 x0.f5 b2 cs0 x0 t48 _ (HS.getO 0 rfl) le34 (HS.getO 3 rfl) (HS.mu 0 rfl) ha49) (fun w50 HS => ?_)
 clear ha49
 refine dn_ hK47 ?_
 rcases ite_ H with ⟨c51, H⟩ | ⟨c51, H⟩
 · refine wy_ c51 ?_
   refine sr_ fun _ hK52 => ?_
   refine ad_ hK52 ?_
   obtain rfl := os H
   exact rt1 Tryz.f68 rfl rfl hR_ ⟨rfl, HS.b⟩
 refine wn_ (bF c51) (WC.skip (via_ hK46 (WC.seq fun _ hK53 => ?_)))
 refine WC.drawS HS [] rfl rfl (fun w54 HS => ?_)
 have HB := Below.refl w54.heap.size w54
 have HSW := HS
 refine df_ 0 underlying34 ?_
 refine df_ 2 underlying34 ?_
 obtain ⟨A55, c56, hc57, le58, HS⟩ := HS.sO 3 rfl at34_6
 refine bl_ 1 HS (Below.refl _ _) 0 underlying28 hc57 ?_
 refine bl_ 3 HS (Below.refl _ _) 0 underlying3 (at34_0 (HS.aO 4 rfl)).int ?_
 obtain ⟨t59, ha60, H⟩ := bind_some H
 refine dcs_ HS HB 4 (w_none rfl) func161 (impl_GainOk.runs k A55 c56 x0.f6 x0.f0 t59 _ (HS.getO 0 rfl) le58 ha60) (fun w61 HS HB => ?_)
 clear ha60
 refine dm_ 5 ?_
 rcases eti_ H with ⟨c62, H⟩ | ⟨c62, H⟩
 · refine doFs_ 7 47 [6, 7, 8, 9, 10, 11, 12] [48, 49, 50, 51, 52, 53, 54] (bF c62) ?_
   refine dp_ 13 (fun _ => Run.pickF rfl rfl (bF c62) rfl) ?_
   refine dm_ 14 ?_
   refine doFs_ 11 56 [15, 16, 17, 18, 19, 20, 21, 22, 23, 24, 25] [57, 58, 59, 60, 61, 62, 63, 64, 65, 66, 67] rfl ?_
   refine dp_ 26 (fun _ => Run.pickF rfl rfl rfl rfl) ?_
   refine dp_ 27 (fun _ => Run.assign rfl rfl) ?_
   refine dd_ ?_
   clear HB HSW
   refine via_ hK53 ?_
   obtain rfl := os H
   exact rt1 Tryz.f68 rfl rfl hR_ ⟨rfl, HS.b⟩
 refine dfg_ 6 c62 underlying34 ?_
 refine dfg_ 8 c62 underlying34 ?_
 obtain ⟨A63, c64, hc65, le66, HS⟩ := HS.sO 4 rfl at34_8
 obtain ⟨A67, c68, hc69, le70, HS⟩ := HS.sO 5 rfl at34_9
 refine dh_ 7 c62 HB (fun w_ hw_ => Run.loadS (cs := [vi x0.f7.f0, .slice A63 x0.f7.f1.length c64, .slice A67 x0.f7.f2.length c68, vi x0.f7.f3, vi x0.f7.f4]) rfl rfl underlying30 rfl (by kernel_rfl) (box_part ((HSW.below hw_).mu 0 rfl) (part_cons (at34_7 ((HSW.below hw_).aO 3 rfl)).int (part_cons hc65 (part_cons hc69 (part_cons (at34_10 ((HSW.below hw_).aO 3 rfl)).int (part_cons (at34_11 ((HSW.below hw_).aO 3 rfl)).int part_nil))))))) ?_
 refine blg_ 9 c62 HSW HB 0 underlying3 (at34_0 (HSW.aO 3 rfl)).int ?_
 refine dh_ 10 c62 HB (fun w_ hw_ => Run.loadS (cs := cs0) rfl rfl underlying34 rfl (by rw [el0]; kernel_rfl) (box_part ((HSW.below hw_).mu 0 rfl) part_all)) ?_
 obtain ⟨t71, ha72, H⟩ := bind_some H
 refine dcs_ HS HB 11 (w_on rfl rfl rfl c62) func45 (impl_Vocab.runs k cs0 x0 t71 _ (HS.getO 6 rfl) ha72) (fun w73 HS HB => ?_)
 clear ha72
 obtain ⟨t74, ha75, H⟩ := bind_some H
 refine dcs_ HS HB 12 (w_on rfl rfl rfl c62) func162 (impl_withinBudget.runs k x0.f7 A63 c64 A67 c68 x0.f0 t71 t74 _ (HS.getO 1 rfl) le66 (HS.getO 0 rfl) le70 ha75) (fun w76 HS HB => ?_)
 clear ha75
 refine dp_ 13 (fun _ => Run.pickT rfl rfl c62 rfl) ?_
 refine dm_ 14 ?_
 rcases eti_ H with ⟨c77, H⟩ | ⟨c77, H⟩
 · refine doFs_ 11 56 [15, 16, 17, 18, 19, 20, 21, 22, 23, 24, 25] [57, 58, 59, 60, 61, 62, 63, 64, 65, 66, 67] (bF c77) ?_
   refine dp_ 26 (fun _ => Run.pickF rfl rfl (bF c77) rfl) ?_
   refine dp_ 27 (fun _ => Run.assign rfl rfl) ?_
   refine dd_ ?_
   clear HB HSW
   refine via_ hK53 ?_
   obtain rfl := os H
   exact rt1 Tryz.f68 rfl rfl hR_ ⟨rfl, HS.b⟩
 refine dfg_ 15 c77 underlying34 ?_
 refine dfg_ 17 c77 underlying34 ?_
 refine dfg_ 19 c77 underlying34 ?_
 refine dfg_ 21 c77 underlying34 ?_
 obtain ⟨A78, c79, hc80, le81, HS⟩ := HS.sO 6 rfl at34_12
 obtain ⟨A82, c83, hc84, le85, HS⟩ := HS.sO 7 rfl at34_13
 refine dh_ 16 c77 HB (fun w_ hw_ => Run.loadS (cs := [.slice A78 x0.f8.f0.length c79, .slice A82 x0.f8.f1.length c83]) rfl rfl underlying32 rfl (by kernel_rfl) (box_part ((HSW.below hw_).mu 0 rfl) (part_cons hc80 (part_cons hc84 part_nil)))) ?_
 refine blg_ 18 c77 HSW HB 0 underlying3 (at34_2 (HSW.aO 3 rfl)).int ?_
 refine blg_ 20 c77 HSW HB 0 underlying3 (at34_0 (HSW.aO 3 rfl)).int ?_
 refine blg_ 22 c77 HSW HB 0 underlying3 (at34_1 (HSW.aO 3 rfl)).int ?_
 obtain ⟨z86, H⟩ := if_some H
 refine dg_ 23 c77 (fun _ => Run.bin rfl rfl rfl (bin_quo64 z86)) ?_
 refine dg_ 24 c77 (fun _ => Run.bin rfl rfl rfl (bin_quo64 (show (2 : Int) ≠ 0 by decide))) ?_
 obtain ⟨t87, ha88, H⟩ := bind_some H
 refine dcs_ HS HB 25 (w_on rfl rfl rfl c77) func163 (impl_TurnsOk.runs k x0.f8 A78 c79 A82 c83 x0.f2 (wrap64 (Int.tdiv (wrap64 (Int.tdiv x0.f0 x0.f1)) 2)) t87 _ (HS.getO 1 rfl) le81 (HS.getO 0 rfl) le85 ha88) (fun w89 HS HB => ?_)
 clear ha88
 refine dp_ 26 (fun _ => Run.pickT rfl rfl c77 rfl) ?_
 refine dp_ 27 (fun _ => Run.assign rfl rfl) ?_
 refine dd_ ?_
 clear HB HSW
 refine via_ hK53 ?_
 obtain rfl := os H
 exact rt1 Tryz.f68 rfl rfl hR_ ⟨rfl, HS.b⟩
def laws_szLayer.g (k : Nat) (x0 : S215) (a1 : Int) : Option Int := ((laws_szIntS.g k x0.f0 a1).bind fun t9 => (if t9 < 0 then (some (-1)) else ((laws_szMatrix.g k x0.f1 t9).bind fun t25 => (if t25 < 0 then (some (-1)) else ((laws_szMatrix.g k x0.f2 t25).bind fun t41 => (if t41 < 0 then (some (-1)) else ((laws_szMatrix.g k x0.f3 t41).bind fun t57 => (if t57 < 0 then (some (-1)) else ((laws_szMatrix.g k x0.f4 t57).bind fun t73 => (if t73 < 0 then (some (-1)) else ((laws_szIntS.g k x0.f5 t73).bind fun t85 => (if t85 < 0 then (some (-1)) else ((laws_szMatrix.g k x0.f6 t85).bind fun t101 => (if t101 < 0 then (some (-1)) else ((laws_szMatrix.g k x0.f7 t101).bind fun t117 => (if t117 < 0 then (some (-1)) else (some t117)))))))))))))))))
theorem laws_szLayer.runs (k : Nat) (cs0 : List Value) (x0 : S215) (a1 : Int) (r : Int) (w : World) (hk0 : k215.K w x0 cs0) (H : laws_szLayer.g k x0 a1 = some r) :
   Calls prog 167 #[.agg cs0.toArray, vi a1] w fun e w' => e = .returned (vi r) ∧ Below w.heap.size w w' := by
 have el0 : cs0.length = 32 := k215.K_len hk0
 unfold laws_szLayer.g at H
 have HS : St (fun _ => True) w w [] [(kF k215 x0 cs0)] [] := St.start (foot_cons (foot_K h215 hk0) foot_nil)
 refine cw_ (n := 54) func167 fun R_ hR_ => ?_
 refine sr_ fun _ hK1 => ?_
 refine bo_ HS (fun b2 w3 hb2 HS => ?_)
 refine ad_ hK1 ?_
 refine sr_ fun _ hK4 => ?_
 refine v_ (fa_ underlying215) ?_
 obtain ⟨A5, c6, hc7, le8, HS⟩ := HS.sO 0 rfl at215_0
 refine v_ (lb_ (HS.mu 0 rfl) underlying28 hc7) ?_
 refine mv_ ?_
 obtain ⟨t9, ha10, H⟩ := bind_some H
 refine cs_ HS func92 (laws_szIntS.runs k A5 c6 x0.f0 a1 t9 _ (HS.getO 0 rfl) le8 ha10) (fun w11 HS => ?_)
 clear ha10
 refine ad_ hK4 ?_
 refine WC.seq fun _ hK12 => ?_
 refine sr_ fun _ hK13 => ?_
 refine mv_ ?_
 refine b_ bin_lss ?_
 refine dn_ hK13 ?_
 rcases ite_ H with ⟨c14, H⟩ | ⟨c14, H⟩
 · refine wy_ (dT c14) (sr_ fun _ hK15 => ?_)
   refine ad_ hK15 ?_
   obtain rfl := os H
   exact rt1 Tryz.f167 rfl rfl hR_ ⟨rfl, HS.b⟩
 refine wn_ (dF c14) (WC.skip (via_ hK12 (sr_ fun _ hK16 => ?_)))
 refine v_ (fa_ underlying215) ?_
 obtain ⟨A17, c18, hc19, le20, HS⟩ := HS.sO 1 rfl at215_2
 obtain ⟨A21, c22, hc23, le24, HS⟩ := HS.sO 2 rfl at215_3
 refine v_ (ls_ (HS.mu 0 rfl) underlying44 (part_cons (at215_1 (HS.aO 3 rfl)).int (part_cons hc19 (part_cons hc23 (part_cons (at215_4 (HS.aO 3 rfl)).int (part_cons (at215_5 (HS.aO 3 rfl)).int part_nil)))))) ?_
 refine mv_ ?_
 obtain ⟨t25, ha26, H⟩ := bind_some H
 refine cs_ HS func93 (laws_szMatrix.runs k x0.f1 A17 c18 A21 c22 t9 t25 _ (HS.getO 1 rfl) le20 (HS.getO 0 rfl) le24 ha26) (fun w27 HS => ?_)
 clear ha26
 refine ad_ hK16 ?_
 refine WC.seq fun _ hK28 => ?_
 refine sr_ fun _ hK29 => ?_
 refine mv_ ?_
 refine b_ bin_lss ?_
 refine dn_ hK29 ?_
 rcases ite_ H with ⟨c30, H⟩ | ⟨c30, H⟩
 · refine wy_ (dT c30) (sr_ fun _ hK31 => ?_)
   refine ad_ hK31 ?_
   obtain rfl := os H
   exact rt1 Tryz.f167 rfl rfl hR_ ⟨rfl, HS.b⟩
 refine wn_ (dF c30) (WC.skip (via_ hK28 (sr_ fun _ hK32 => ?_)))
 refine v_ (fa_ underlying215) ?_
 obtain ⟨A33, c34, hc35, le36, HS⟩ := HS.sO 3 rfl at215_7
 obtain ⟨A37, c38, hc39, le40, HS⟩ := HS.sO 4 rfl at215_8
 refine v_ (ls_ (HS.mu 0 rfl) underlying44 (part_cons (at215_6 (HS.aO 5 rfl)).int (part_cons hc35 (part_cons hc39 (part_cons (at215_9 (HS.aO 5 rfl)).int (part_cons (at215_10 (HS.aO 5 rfl)).int part_nil)))))) ?_
 refine mv_ ?_
 obtain ⟨t41, ha42, H⟩ := bind_some H
 refine cs_ HS func93 (laws_szMatrix.runs k x0.f2 A33 c34 A37 c38 t25 t41 _ (HS.getO 1 rfl) le36 (HS.getO 0 rfl) le40 ha42) (fun w43 HS => ?_)
 clear ha42
 refine ad_ hK32 ?_
 refine WC.seq fun _ hK44 => ?_
 refine sr_ fun _ hK45 => ?_
 refine mv_ ?_
 refine b_ bin_lss ?_
 refine dn_ hK45 ?_
 rcases ite_ H with ⟨c46, H⟩ | ⟨c46, H⟩
 · refine wy_ (dT c46) (sr_ fun _ hK47 => ?_)
   refine ad_ hK47 ?_
   obtain rfl := os H
   exact rt1 Tryz.f167 rfl rfl hR_ ⟨rfl, HS.b⟩
 refine wn_ (dF c46) (WC.skip (via_ hK44 (sr_ fun _ hK48 => ?_)))
 refine v_ (fa_ underlying215) ?_
 obtain ⟨A49, c50, hc51, le52, HS⟩ := HS.sO 5 rfl at215_12
 obtain ⟨A53, c54, hc55, le56, HS⟩ := HS.sO 6 rfl at215_13
 refine v_ (ls_ (HS.mu 0 rfl) underlying44 (part_cons (at215_11 (HS.aO 7 rfl)).int (part_cons hc51 (part_cons hc55 (part_cons (at215_14 (HS.aO 7 rfl)).int (part_cons (at215_15 (HS.aO 7 rfl)).int part_nil)))))) ?_
 refine mv_ ?_
 obtain ⟨t57, ha58, H⟩ := bind_some H
 refine cs_ HS func93 (laws_szMatrix.runs k x0.f3 A49 c50 A53 c54 t41 t57 _ (HS.getO 1 rfl) le52 (HS.getO 0 rfl) le56 ha58) (fun w59 HS => ?_)
 clear ha58
 refine ad_ hK48 ?_
 refine WC.seq fun _ hK60 => ?_
 refine sr_ fun _ hK61 => ?_
 refine mv_ ?_
 refine b_ bin_lss ?_
 refine dn_ hK61 ?_
 rcases ite_ H with ⟨c62, H⟩ | ⟨c62, H⟩
 · refine wy_ (dT c62) (sr_ fun _ hK63 => ?_)
   refine ad_ hK63 ?_
   obtain rfl := os H
   exact rt1 Tryz.f167 rfl rfl hR_ ⟨rfl, HS.b⟩
 refine wn_ (dF c62) (WC.skip (via_ hK60 (sr_ fun _ hK64 => ?_)))
 refine v_ (fa_ underlying215) ?_
 obtain ⟨A65, c66, hc67, le68, HS⟩ := HS.sO 7 rfl at215_17
 obtain ⟨A69, c70, hc71, le72, HS⟩ := HS.sO 8 rfl at215_18
 refine v_ (ls_ (HS.mu 0 rfl) underlying44 (part_cons (at215_16 (HS.aO 9 rfl)).int (part_cons hc67 (part_cons hc71 (part_cons (at215_19 (HS.aO 9 rfl)).int (part_cons (at215_20 (HS.aO 9 rfl)).int part_nil)))))) ?_
 refine mv_ ?_
 obtain ⟨t73, ha74, H⟩ := bind_some H
 refine cs_ HS func93 (laws_szMatrix.runs k x0.f4 A65 c66 A69 c70 t57 t73 _ (HS.getO 1 rfl) le68 (HS.getO 0 rfl) le72 ha74) (fun w75 HS => ?_)
 clear ha74
 refine ad_ hK64 ?_
 refine WC.seq fun _ hK76 => ?_
 refine sr_ fun _ hK77 => ?_
 refine mv_ ?_
 refine b_ bin_lss ?_
 refine dn_ hK77 ?_
 rcases ite_ H with ⟨c78, H⟩ | ⟨c78, H⟩
 · refine wy_ (dT c78) (sr_ fun _ hK79 => ?_)
   refine ad_ hK79 ?_
   obtain rfl := os H
   exact rt1 Tryz.f167 rfl rfl hR_ ⟨rfl, HS.b⟩
 refine wn_ (dF c78) (WC.skip (via_ hK76 (sr_ fun _ hK80 => ?_)))
 refine v_ (fa_ underlying215) ?_
 obtain ⟨A81, c82, hc83, le84, HS⟩ := HS.sO 9 rfl at215_21
 refine v_ (lb_ (HS.mu 0 rfl) underlying28 hc83) ?_
 refine mv_ ?_
 obtain ⟨t85, ha86, H⟩ := bind_some H
 refine cs_ HS func92 (laws_szIntS.runs k A81 c82 x0.f5 t73 t85 _ (HS.getO 0 rfl) le84 ha86) (fun w87 HS => ?_)
 clear ha86
 refine ad_ hK80 ?_
 refine WC.seq fun _ hK88 => ?_
 refine sr_ fun _ hK89 => ?_
 refine mv_ ?_
 refine b_ bin_lss ?_
 refine dn_ hK89 ?_
 rcases ite_ H with ⟨c90, H⟩ | ⟨c90, H⟩
 · refine wy_ (dT c90) (sr_ fun _ hK91 => ?_)
   refine ad_ hK91 ?_
   obtain rfl := os H
   exact rt1 Tryz.f167 rfl rfl hR_ ⟨rfl, HS.b⟩
 refine wn_ (dF c90) (WC.skip (via_ hK88 (sr_ fun _ hK92 => ?_)))
 refine v_ (fa_ underlying215) ?_
 obtain ⟨A93, c94, hc95, le96, HS⟩ := HS.sO 10 rfl at215_23
 obtain ⟨A97, c98, hc99, le100, HS⟩ := HS.sO 11 rfl at215_24
 refine v_ (ls_ (HS.mu 0 rfl) underlying44 (part_cons (at215_22 (HS.aO 12 rfl)).int (part_cons hc95 (part_cons hc99 (part_cons (at215_25 (HS.aO 12 rfl)).int (part_cons (at215_26 (HS.aO 12 rfl)).int part_nil)))))) ?_
 refine mv_ ?_
 obtain ⟨t101, ha102, H⟩ := bind_some H
 refine cs_ HS func93 (laws_szMatrix.runs k x0.f6 A93 c94 A97 c98 t85 t101 _ (HS.getO 1 rfl) le96 (HS.getO 0 rfl) le100 ha102) (fun w103 HS => ?_)
 clear ha102
 refine ad_ hK92 ?_
 refine WC.seq fun _ hK104 => ?_
 refine sr_ fun _ hK105 => ?_
 refine mv_ ?_
 refine b_ bin_lss ?_
 refine dn_ hK105 ?_
 rcases ite_ H with ⟨c106, H⟩ | ⟨c106, H⟩
 · refine wy_ (dT c106) (sr_ fun _ hK107 => ?_)
   refine ad_ hK107 ?_
   obtain rfl := os H
   exact rt1 Tryz.f167 rfl rfl hR_ ⟨rfl, HS.b⟩
 refine wn_ (dF c106) (WC.skip (via_ hK104 (sr_ fun _ hK108 => ?_)))
 refine v_ (fa_ underlying215) ?_
 obtain ⟨A109, c110, hc111, le112, HS⟩ := HS.sO 12 rfl at215_28
 obtain ⟨A113, c114, hc115, le116, HS⟩ := HS.sO 13 rfl at215_29
 refine v_ (ls_ (HS.mu 0 rfl) underlying44 (part_cons (at215_27 (HS.aO 14 rfl)).int (part_cons hc111 (part_cons hc115 (part_cons (at215_30 (HS.aO 14 rfl)).int (part_cons (at215_31 (HS.aO 14 rfl)).int part_nil)))))) ?_
 refine mv_ ?_
 obtain ⟨t117, ha118, H⟩ := bind_some H
 refine cs_ HS func93 (laws_szMatrix.runs k x0.f7 A109 c110 A113 c114 t101 t117 _ (HS.getO 1 rfl) le112 (HS.getO 0 rfl) le116 ha118) (fun w119 HS => ?_)
 clear ha118
 refine ad_ hK108 ?_
 refine WC.seq fun _ hK120 => ?_
 refine sr_ fun _ hK121 => ?_
 refine mv_ ?_
 refine b_ bin_lss ?_
 refine dn_ hK121 ?_
 rcases ite_ H with ⟨c122, H⟩ | ⟨c122, H⟩
 · refine wy_ (dT c122) (sr_ fun _ hK123 => ?_)
   refine ad_ hK123 ?_
   obtain rfl := os H
   exact rt1 Tryz.f167 rfl rfl hR_ ⟨rfl, HS.b⟩
 refine wn_ (dF c122) (WC.skip (via_ hK120 (sr_ fun _ hK124 => ?_)))
 refine mv_ ?_
 refine ad_ hK124 ?_
 obtain rfl := os H
 exact rt1 Tryz.f167 rfl rfl hR_ ⟨rfl, HS.b⟩
def laws_szLayerS.b0 (l0 : List S215) (rec_ : Int → Int → Option (Int ⊕ (Int × Int))) (k21 : Nat) (i13 : Int) (i14 : Int) : Option (Int ⊕ (Int × Int)) := (if i14 < (l0.length : Int) then (if 0 ≤ i14 ∧ i14 < (l0.length : Int) then ((laws_szLayer.g k21 (l0.getD i14.toNat o215) i13).bind fun t32 => (if t32 < 0 then (some (Sum.inl (-1))) else (rec_ t32 (wrap64 (i14 + 1))))) else none) else (some (Sum.inr (i13, i14))))
def laws_szLayerS.l0 (l0 : List S215) : Nat → Int → Int → Option (Int ⊕ (Int × Int))
 | 0, _, _ => none
 | k + 1, i13, i14 => laws_szLayerS.b0 l0 (laws_szLayerS.l0 l0 k) k i13 i14
def laws_szLayerS.g (k : Nat) (l0 : List S215) (a1 : Int) : Option Int := (if (wrap64 (a1 - (l0.length : Int))) < 0 then (some (-1)) else ((laws_szLayerS.l0 l0 k (wrap64 (a1 - (l0.length : Int))) 0).bind (fun oc19 => match oc19 with | .inl r_ => some r_ | .inr ⟨i13, i14⟩ => (some i13))))
theorem laws_szLayerS.runs (k : Nat) (A0 : Option Addr) (c0 : Nat) (l0 : List S215) (a1 : Int) (r : Int) (w : World) (hr0 : k215.C w A0 l0.length l0) (hc0 : l0.length ≤ c0) (H : laws_szLayerS.g k l0 a1 = some r) :
   Calls prog 91 #[.slice A0 l0.length c0, vi a1] w fun e w' => e = .returned (vi r) ∧ Below w.heap.size w w' := by
 unfold laws_szLayerS.g at H
 have HS : St (fun _ => True) w w [] [(cF k215 A0 l0)] [] := St.start (foot_cons (foot_C h215 hr0) foot_nil)
 refine cw_ (n := 27) func91 fun R_ hR_ => ?_
 refine sr_ fun _ hK1 => ?_
 refine ad_ hK1 ?_
 refine sr_ fun _ hK2 => ?_
 refine mv_ ?_
 refine mv_ ?_
 refine ln_ underlying43 ?_
 refine b_ bin_sub64 ?_
 refine ad_ hK2 ?_
 refine WC.seq fun _ hK3 => ?_
 refine sr_ fun _ hK4 => ?_
 refine mv_ ?_
 refine b_ bin_lss ?_
 refine dn_ hK4 ?_
 rcases ite_ H with ⟨c5, H⟩ | ⟨c5, H⟩
 · refine wy_ (dT c5) (sr_ fun _ hK6 => ?_)
   refine ad_ hK6 ?_
   obtain rfl := os H
   exact rt1 Tryz.f91 rfl rfl hR_ ⟨rfl, HS.b⟩
 refine wn_ (dF c5) (WC.skip (via_ hK3 (WC.seq fun K7 hK7 => ?_)))
 refine sr_ fun _ hK8 => ?_
 refine ad_ hK8 ?_
 refine WC.block ?_
 obtain ⟨G9, hG10, oc11, H, Ho12⟩ := open_G H
 let J15 := fun (i13 : Int) (i14 : Int) (E_ : Env) (W_ : World) => E_ = [(0, .slice A0 l0.length c0), (1, vi i13), (5, vi i14)] ∧ St (fun _ => True) w W_ [] [(cF k215 A0 l0)] []
 have X16 : ∀ E_ W_, (∃ i13 i14, G9 (Sum.inr (i13, i14)) = some r ∧ J15 i13 i14 E_ W_) → ∀ a, Fits a 27 E_ → K7 a W_ := by
   rintro E_ w17 ⟨i13, i14, H, rfl, HS⟩
   rw [hG10] at H
   (try dsimp only at H)
   refine hK7 _ _ ?_
   refine sr_ fun _ hK18 => ?_
   refine mv_ ?_
   refine ad_ hK18 ?_
   obtain rfl := os H
   exact rt1 Tryz.f91 rfl rfl hR_ ⟨rfl, HS.b⟩
 clear hK7
 refine WC.loop (fun k_ E_ W_ => ∃ i13 i14, (∃ o_, laws_szLayerS.l0 l0 k_ i13 i14 = some o_ ∧ G9 o_ = some r) ∧ J15 i13 i14 E_ W_) k ⟨(wrap64 (a1 - (l0.length : Int))), 0, ⟨_, H, Ho12⟩, rfl, HS⟩ (sb rfl) ?_
 rintro k_ E_ w20 ⟨i13, i14, ⟨oc11, H, Ho12⟩, rfl, HS⟩
 rcases k_ with _ | k21
 · exact no_ H
 replace H : laws_szLayerS.b0 l0 (laws_szLayerS.l0 l0 k21) k21 i13 i14 = some oc11 := H
 unfold laws_szLayerS.b0 at H
 refine WC.seq fun _ hK22 => ?_
 refine sr_ fun _ hK23 => ?_
 refine mv_ ?_
 refine mv_ ?_
 refine ln_ underlying43 ?_
 refine b_ bin_lss ?_
 refine dn_ hK23 ?_
 rcases eti_ H with ⟨c24, H⟩ | ⟨c24, H⟩
 · refine wn_ (dF c24) (WC.exit ?_)
   obtain rfl := os H
   exact wv_ iq X16 ⟨i13, i14, Ho12, rfl, HS⟩
 refine wy_ (dT c24) (WC.skip (via_ hK22 (WC.seq fun _ hK25 => ?_)))
 refine WC.block (sr_ fun _ hK26 => ?_)
 refine mv_ ?_
 refine mv_ ?_
 obtain ⟨⟨q27, q28⟩, H⟩ := if_some H
 obtain ⟨ad29, rfl⟩ := C_open (HS.getO 0 rfl) (lenpos q27 q28)
 refine v_ (ia_ underlying43 32 q27 q28) ?_
 obtain ⟨e30, el31, HS⟩ := HS.elO 0 rfl (by decide) o215 i14 q27 q28
 replace HS := HS.deriveO (p := (kF k215 (l0.getD i14.toNat o215) e30)) (fun W_ hO_ hN_ => hO_.1.1)
 refine v_ (Run.loadS (cs := e30) rfl rfl underlying215 rfl (by rw [el31]; kernel_rfl) (HS.getO 1 rfl).2) ?_
 refine mv_ ?_
 obtain ⟨t32, ha33, H⟩ := bind_some H
 refine cs_ HS func167 (laws_szLayer.runs k21 e30 (l0.getD i14.toNat o215) i13 t32 _ (HS.getO 0 rfl) ha33) (fun w34 HS => ?_)
 clear ha33
 refine ad_ hK26 ?_
 refine sr_ fun _ hK35 => ?_
 refine mv_ ?_
 refine b_ bin_lss ?_
 refine dn_ hK35 ?_
 rcases eti_ H with ⟨c36, H⟩ | ⟨c36, H⟩
 · refine wn_ (dF c36) (WC.skip (via_ hK25 (rg_ (mv_ ?_))))
   refine b_ bin_add64 ?_
   refine as_ ?_
   refine WL.done ?_
   exact wr_ k21 iq ⟨t32, (wrap64 (i14 + 1)), ⟨_, H, Ho12⟩, rfl, (St.pk HS [2] [] rfl rfl)⟩
 refine wy_ (dT c36) (sr_ fun _ hK37 => ?_)
 refine ad_ hK37 ?_
 refine WC.ret ?_
 obtain rfl := os H
 rw [hG10] at Ho12
 replace H : some _ = some _ := Ho12
 obtain rfl := os H
 exact fin1 Tryz.f91 rfl rfl hR_ ⟨rfl, HS.b⟩
def laws_szModel.g (k : Nat) (x0 : S47) (a1 : Int) : Option Int := ((laws_szMergeS.g k x0.f3 a1).bind fun t9 => (if t9 < 0 then (some (-1)) else ((laws_szIntSS.g k x0.f4 t9).bind fun t21 => (if t21 < 0 then (some (-1)) else ((laws_szLayerS.g k x0.f5 t21).bind fun t33 => (if t33 < 0 then (some (-1)) else ((laws_szIntS.g k x0.f6 t33).bind fun t45 => (if t45 < 0 then (some (-1)) else ((laws_szMatrix.g k x0.f7 t45).bind fun t61 => (if t61 < 0 then (some (-1)) else ((laws_szTurns.g k x0.f8 t61).bind fun t77 => (if t77 < 0 then (some (-1)) else (some t77)))))))))))))
theorem laws_szModel.runs (k : Nat) (cs0 : List Value) (x0 : S47) (a1 : Int) (r : Int) (w : World) (hk0 : k47.K w x0 cs0) (H : laws_szModel.g k x0 a1 = some r) :
   Calls prog 18 #[.agg cs0.toArray, vi a1] w fun e w' => e = .returned (vi r) ∧ Below w.heap.size w w' := by
 have el0 : cs0.length = 14 := k47.K_len hk0
 unfold laws_szModel.g at H
 have HS : St (fun _ => True) w w [] [(kF k47 x0 cs0)] [] := St.start (foot_cons (foot_K h47 hk0) foot_nil)
 refine cw_ (n := 42) func18 fun R_ hR_ => ?_
 refine sr_ fun _ hK1 => ?_
 refine bo_ HS (fun b2 w3 hb2 HS => ?_)
 refine ad_ hK1 ?_
 refine sr_ fun _ hK4 => ?_
 refine v_ (fa_ underlying47) ?_
 obtain ⟨A5, c6, hc7, le8, HS⟩ := HS.sO 0 rfl at47_3
 refine v_ (lb_ (HS.mu 0 rfl) underlying42 hc7) ?_
 refine mv_ ?_
 obtain ⟨t9, ha10, H⟩ := bind_some H
 refine cs_ HS func89 (laws_szMergeS.runs k A5 c6 x0.f3 a1 t9 _ (HS.getO 0 rfl) le8 ha10) (fun w11 HS => ?_)
 clear ha10
 refine ad_ hK4 ?_
 refine WC.seq fun _ hK12 => ?_
 refine sr_ fun _ hK13 => ?_
 refine mv_ ?_
 refine b_ bin_lss ?_
 refine dn_ hK13 ?_
 rcases ite_ H with ⟨c14, H⟩ | ⟨c14, H⟩
 · refine wy_ (dT c14) (sr_ fun _ hK15 => ?_)
   refine ad_ hK15 ?_
   obtain rfl := os H
   exact rt1 Tryz.f18 rfl rfl hR_ ⟨rfl, HS.b⟩
 refine wn_ (dF c14) (WC.skip (via_ hK12 (sr_ fun _ hK16 => ?_)))
 refine v_ (fa_ underlying47) ?_
 obtain ⟨A17, c18, hc19, le20, HS⟩ := HS.sO 1 rfl at47_4
 refine v_ (lb_ (HS.mu 0 rfl) underlying26 hc19) ?_
 refine mv_ ?_
 obtain ⟨t21, ha22, H⟩ := bind_some H
 refine cs_ HS func90 (laws_szIntSS.runs k A17 c18 x0.f4 t9 t21 _ (HS.getO 0 rfl) le20 ha22) (fun w23 HS => ?_)
 clear ha22
 refine ad_ hK16 ?_
 refine WC.seq fun _ hK24 => ?_
 refine sr_ fun _ hK25 => ?_
 refine mv_ ?_
 refine b_ bin_lss ?_
 refine dn_ hK25 ?_
 rcases ite_ H with ⟨c26, H⟩ | ⟨c26, H⟩
 · refine wy_ (dT c26) (sr_ fun _ hK27 => ?_)
   refine ad_ hK27 ?_
   obtain rfl := os H
   exact rt1 Tryz.f18 rfl rfl hR_ ⟨rfl, HS.b⟩
 refine wn_ (dF c26) (WC.skip (via_ hK24 (sr_ fun _ hK28 => ?_)))
 refine v_ (fa_ underlying47) ?_
 obtain ⟨A29, c30, hc31, le32, HS⟩ := HS.sO 2 rfl at47_5
 refine v_ (lb_ (HS.mu 0 rfl) underlying43 hc31) ?_
 refine mv_ ?_
 obtain ⟨t33, ha34, H⟩ := bind_some H
 refine cs_ HS func91 (laws_szLayerS.runs k A29 c30 x0.f5 t21 t33 _ (HS.getO 0 rfl) le32 ha34) (fun w35 HS => ?_)
 clear ha34
 refine ad_ hK28 ?_
 refine WC.seq fun _ hK36 => ?_
 refine sr_ fun _ hK37 => ?_
 refine mv_ ?_
 refine b_ bin_lss ?_
 refine dn_ hK37 ?_
 rcases ite_ H with ⟨c38, H⟩ | ⟨c38, H⟩
 · refine wy_ (dT c38) (sr_ fun _ hK39 => ?_)
   refine ad_ hK39 ?_
   obtain rfl := os H
   exact rt1 Tryz.f18 rfl rfl hR_ ⟨rfl, HS.b⟩
 refine wn_ (dF c38) (WC.skip (via_ hK36 (sr_ fun _ hK40 => ?_)))
 refine v_ (fa_ underlying47) ?_
 obtain ⟨A41, c42, hc43, le44, HS⟩ := HS.sO 3 rfl at47_6
 refine v_ (lb_ (HS.mu 0 rfl) underlying28 hc43) ?_
 refine mv_ ?_
 obtain ⟨t45, ha46, H⟩ := bind_some H
 refine cs_ HS func92 (laws_szIntS.runs k A41 c42 x0.f6 t33 t45 _ (HS.getO 0 rfl) le44 ha46) (fun w47 HS => ?_)
 clear ha46
 refine ad_ hK40 ?_
 refine WC.seq fun _ hK48 => ?_
 refine sr_ fun _ hK49 => ?_
 refine mv_ ?_
 refine b_ bin_lss ?_
 refine dn_ hK49 ?_
 rcases ite_ H with ⟨c50, H⟩ | ⟨c50, H⟩
 · refine wy_ (dT c50) (sr_ fun _ hK51 => ?_)
   refine ad_ hK51 ?_
   obtain rfl := os H
   exact rt1 Tryz.f18 rfl rfl hR_ ⟨rfl, HS.b⟩
 refine wn_ (dF c50) (WC.skip (via_ hK48 (sr_ fun _ hK52 => ?_)))
 refine v_ (fa_ underlying47) ?_
 obtain ⟨A53, c54, hc55, le56, HS⟩ := HS.sO 4 rfl at47_8
 obtain ⟨A57, c58, hc59, le60, HS⟩ := HS.sO 5 rfl at47_9
 refine v_ (ls_ (HS.mu 0 rfl) underlying44 (part_cons (at47_7 (HS.aO 6 rfl)).int (part_cons hc55 (part_cons hc59 (part_cons (at47_10 (HS.aO 6 rfl)).int (part_cons (at47_11 (HS.aO 6 rfl)).int part_nil)))))) ?_
 refine mv_ ?_
 obtain ⟨t61, ha62, H⟩ := bind_some H
 refine cs_ HS func93 (laws_szMatrix.runs k x0.f7 A53 c54 A57 c58 t45 t61 _ (HS.getO 1 rfl) le56 (HS.getO 0 rfl) le60 ha62) (fun w63 HS => ?_)
 clear ha62
 refine ad_ hK52 ?_
 refine WC.seq fun _ hK64 => ?_
 refine sr_ fun _ hK65 => ?_
 refine mv_ ?_
 refine b_ bin_lss ?_
 refine dn_ hK65 ?_
 rcases ite_ H with ⟨c66, H⟩ | ⟨c66, H⟩
 · refine wy_ (dT c66) (sr_ fun _ hK67 => ?_)
   refine ad_ hK67 ?_
   obtain rfl := os H
   exact rt1 Tryz.f18 rfl rfl hR_ ⟨rfl, HS.b⟩
 refine wn_ (dF c66) (WC.skip (via_ hK64 (sr_ fun _ hK68 => ?_)))
 refine v_ (fa_ underlying47) ?_
 obtain ⟨A69, c70, hc71, le72, HS⟩ := HS.sO 6 rfl at47_12
 obtain ⟨A73, c74, hc75, le76, HS⟩ := HS.sO 7 rfl at47_13
 refine v_ (ls_ (HS.mu 0 rfl) underlying45 (part_cons hc71 (part_cons hc75 part_nil))) ?_
 refine mv_ ?_
 obtain ⟨t77, ha78, H⟩ := bind_some H
 refine cs_ HS func94 (laws_szTurns.runs k x0.f8 A69 c70 A73 c74 t61 t77 _ (HS.getO 1 rfl) le72 (HS.getO 0 rfl) le76 ha78) (fun w79 HS => ?_)
 clear ha78
 refine ad_ hK68 ?_
 refine WC.seq fun _ hK80 => ?_
 refine sr_ fun _ hK81 => ?_
 refine mv_ ?_
 refine b_ bin_lss ?_
 refine dn_ hK81 ?_
 rcases ite_ H with ⟨c82, H⟩ | ⟨c82, H⟩
 · refine wy_ (dT c82) (sr_ fun _ hK83 => ?_)
   refine ad_ hK83 ?_
   obtain rfl := os H
   exact rt1 Tryz.f18 rfl rfl hR_ ⟨rfl, HS.b⟩
 refine wn_ (dF c82) (WC.skip (via_ hK80 (sr_ fun _ hK84 => ?_)))
 refine mv_ ?_
 refine ad_ hK84 ?_
 obtain rfl := os H
 exact rt1 Tryz.f18 rfl rfl hR_ ⟨rfl, HS.b⟩
def laws_toLayer.g (k : Nat) (x0 : S215) : Option S118 := ((laws_toIntS.g k x0.f0).bind fun t14 => ((laws_toMatrix.g k x0.f1).bind fun t33 => ((laws_toMatrix.g k x0.f2).bind fun t58 => ((laws_toMatrix.g k x0.f3).bind fun t83 => ((laws_toMatrix.g k x0.f4).bind fun t108 => ((laws_toIntS.g k x0.f5).bind fun t129 => ((laws_toMatrix.g k x0.f6).bind fun t148 => ((laws_toMatrix.g k x0.f7).bind fun t173 => (some (⟨t14, (⟨t33.f0, t33.f1, t33.f2, t33.f3, t33.f4⟩ : S30), (⟨t58.f0, t58.f1, t58.f2, t58.f3, t58.f4⟩ : S30), (⟨t83.f0, t83.f1, t83.f2, t83.f3, t83.f4⟩ : S30), (⟨t108.f0, t108.f1, t108.f2, t108.f3, t108.f4⟩ : S30), t129, (⟨t148.f0, t148.f1, t148.f2, t148.f3, t148.f4⟩ : S30), (⟨t173.f0, t173.f1, t173.f2, t173.f3, t173.f4⟩ : S30)⟩ : S118))))))))))
theorem laws_toLayer.runs (k : Nat) (cs0 : List Value) (x0 : S215) (r : S118) (w : World) (hk0 : k215.K w x0 cs0) (H : laws_toLayer.g k x0 = some r) :
   Calls prog 182 #[.agg cs0.toArray] w fun e w' => ∃ (cs0_ : List Value) (bl0_ : List Nat), e = .returned (.agg cs0_.toArray) ∧ Owns w' w.heap.size [valM dq118 r cs0_ bl0_] ∧ Below w.heap.size w w' := by
 have el0 : cs0.length = 32 := k215.K_len hk0
 unfold laws_toLayer.g at H
 have HS : St (fun _ => True) w w [] [(kF k215 x0 cs0)] [] := St.start (foot_cons (foot_K h215 hk0) foot_nil)
 refine cw_ (n := 37) func182 fun R_ hR_ => ?_
 refine sr_ fun _ hK1 => ?_
 refine bo_ HS (fun b2 w3 hb2 HS => ?_)
 refine WL.alloc HS (v := .agg zz1) (cs := zz1) rfl rfl (by decide) rfl (by kernel_rfl) rfl (fun b4 w5 hb4 HS => ?_)
 refine dn_ hK1 (sr_ fun _ hK6 => ?_)
 exact by (
 clear hK1
 refine WL.alloc HS (v := .agg zz1) (cs := zz1) rfl rfl (by decide) rfl (by kernel_rfl) rfl (fun b7 w8 hb7 HS => ?_)
 refine dn_ hK6 (sr_ fun _ hK9 => ?_)
 clear hK6
 refine v_ (fa_ underlying215) ?_
 obtain ⟨A10, c11, hc12, le13, HS⟩ := HS.sO 0 rfl at215_0
 refine v_ (lb_ (HS.mu 2 rfl) underlying28 hc12) ?_
 obtain ⟨t14, ha15, H⟩ := bind_some H
 exact by (
 refine c_ func21 (laws_toIntS.runs k A10 c11 x0.f0 t14 _ (HS.getO 0 rfl) le13 ha15) ?_
 clear ha15
 rintro _ w16 ⟨v17, bl18, rfl, hO_, hb⟩
 replace HS := HS.got hb hO_
 dsimp only [List.cons_append, List.nil_append] at HS
 clear hO_
 obtain ⟨I19, bl20, HS⟩ := HS.unseal (sz := 1) rfl
 replace HS := HS.freezeN 1 (p := (rF kI t14 I19)) rfl (fun _ hP_ _ => RepsB.reps hP_)
 exact by (
 dsimp only [List.eraseIdx] at HS
 refine ⟨_, rfl, ?_⟩
 clear hb
 refine v_ (fa_ underlying118) ?_
 obtain ⟨A22, c23, rfl⟩ := row_slice (HS.mu 0 rfl)
 refine WL.store HS 1 rfl rfl rfl rfl rfl rfl rfl (by kernel_rfl) (ble_ rfl) (cs' := #[(.slice A22 t14.length c23), vi 0, sn, sn, vi 0, vi 0, vi 0, sn, sn, vi 0, vi 0, vi 0, sn, sn, vi 0, vi 0, vi 0, sn, sn, vi 0, vi 0, sn, vi 0, sn, sn, vi 0, vi 0, vi 0, sn, sn, vi 0, vi 0]) (by kernel_rfl) (fun w21 HS => ?_)
 dsimp only [List.set] at HS
 refine dn_ hK9 (sr_ fun _ hK24 => ?_)
 exact by (
 clear hK9
 refine v_ (fa_ underlying215) ?_
 obtain ⟨A25, c26, hc27, le28, HS⟩ := HS.sO 1 rfl at215_2
 obtain ⟨A29, c30, hc31, le32, HS⟩ := HS.sO 2 rfl at215_3
 refine v_ (ls_ (HS.mu 3 rfl) underlying44 (part_cons (at215_1 (HS.aO 3 rfl)).int (part_cons hc27 (part_cons hc31 (part_cons (at215_4 (HS.aO 3 rfl)).int (part_cons (at215_5 (HS.aO 3 rfl)).int part_nil)))))) ?_
 obtain ⟨t33, ha34, H⟩ := bind_some H
 refine c_ func101 (laws_toMatrix.runs k x0.f1 A25 c26 A29 c30 t33 _ (HS.getO 1 rfl) le28 (HS.getO 0 rfl) le32 ha34) ?_
 clear ha34
 exact by (
 rintro _ w35 ⟨v36, bl37, v38, bl39, rfl, hO_, hb⟩
 replace HS := HS.got hb hO_
 dsimp only [List.cons_append, List.nil_append] at HS
 clear hO_
 obtain ⟨I40, bl41, HS⟩ := HS.unseal (sz := 1) rfl
 replace HS := HS.front 2 rfl
 dsimp only [List.eraseIdx] at HS
 obtain ⟨I42, bl43, HS⟩ := HS.unseal (sz := 1) rfl
 exact by (
 refine ⟨_, rfl, ?_⟩
 clear hb
 refine v_ (fa_ underlying118) ?_
 obtain ⟨A45, c46, rfl⟩ := row_slice (HS.mu 2 rfl)
 obtain ⟨A47, c48, rfl⟩ := row_slice (HS.mu 0 rfl)
 refine WL.storeS HS 5 rfl rfl rfl rfl rfl rfl (oneL rfl) (by kernel_rfl) (ble_ rfl) (cs' := #[(.slice A22 t14.length c23), vi t33.f0, (.slice A45 t33.f1.length c46), (.slice A47 t33.f2.length c48), vi t33.f3, vi t33.f4, vi 0, sn, sn, vi 0, vi 0, vi 0, sn, sn, vi 0, vi 0, vi 0, sn, sn, vi 0, vi 0, sn, vi 0, sn, sn, vi 0, vi 0, vi 0, sn, sn, vi 0, vi 0]) (by kernel_rfl) (fun w44 HS => ?_)
 dsimp only [List.set] at HS
 refine dn_ hK24 (sr_ fun _ hK49 => ?_)
 exact by (
 clear hK24
 refine v_ (fa_ underlying215) ?_
 obtain ⟨A50, c51, hc52, le53, HS⟩ := HS.sO 3 rfl at215_7
 obtain ⟨A54, c55, hc56, le57, HS⟩ := HS.sO 4 rfl at215_8
 refine v_ (ls_ (HS.mu 7 rfl) underlying44 (part_cons (at215_6 (HS.aO 5 rfl)).int (part_cons hc52 (part_cons hc56 (part_cons (at215_9 (HS.aO 5 rfl)).int (part_cons (at215_10 (HS.aO 5 rfl)).int part_nil)))))) ?_
 obtain ⟨t58, ha59, H⟩ := bind_some H
 refine c_ func101 (laws_toMatrix.runs k x0.f2 A50 c51 A54 c55 t58 _ (HS.getO 1 rfl) le53 (HS.getO 0 rfl) le57 ha59) ?_
 clear ha59
 exact by (
 rintro _ w60 ⟨v61, bl62, v63, bl64, rfl, hO_, hb⟩
 replace HS := HS.got hb hO_
 dsimp only [List.cons_append, List.nil_append] at HS
 clear hO_
 obtain ⟨I65, bl66, HS⟩ := HS.unseal (sz := 1) rfl
 replace HS := HS.front 2 rfl
 dsimp only [List.eraseIdx] at HS
 obtain ⟨I67, bl68, HS⟩ := HS.unseal (sz := 1) rfl
 exact by (
 refine ⟨_, rfl, ?_⟩
 clear hb
 refine v_ (fa_ underlying118) ?_
 obtain ⟨A70, c71, rfl⟩ := row_slice (HS.mu 2 rfl)
 obtain ⟨A72, c73, rfl⟩ := row_slice (HS.mu 0 rfl)
 refine WL.storeS HS 9 rfl rfl rfl rfl rfl rfl (oneL rfl) (by kernel_rfl) (ble_ rfl) (cs' := #[(.slice A22 t14.length c23), vi t33.f0, (.slice A45 t33.f1.length c46), (.slice A47 t33.f2.length c48), vi t33.f3, vi t33.f4, vi t58.f0, (.slice A70 t58.f1.length c71), (.slice A72 t58.f2.length c73), vi t58.f3, vi t58.f4, vi 0, sn, sn, vi 0, vi 0, vi 0, sn, sn, vi 0, vi 0, sn, vi 0, sn, sn, vi 0, vi 0, vi 0, sn, sn, vi 0, vi 0]) (by kernel_rfl) (fun w69 HS => ?_)
 dsimp only [List.set] at HS
 refine dn_ hK49 (sr_ fun _ hK74 => ?_)
 exact by (
 clear hK49
 refine v_ (fa_ underlying215) ?_
 obtain ⟨A75, c76, hc77, le78, HS⟩ := HS.sO 5 rfl at215_12
 obtain ⟨A79, c80, hc81, le82, HS⟩ := HS.sO 6 rfl at215_13
 refine v_ (ls_ (HS.mu 11 rfl) underlying44 (part_cons (at215_11 (HS.aO 7 rfl)).int (part_cons hc77 (part_cons hc81 (part_cons (at215_14 (HS.aO 7 rfl)).int (part_cons (at215_15 (HS.aO 7 rfl)).int part_nil)))))) ?_
 obtain ⟨t83, ha84, H⟩ := bind_some H
 refine c_ func101 (laws_toMatrix.runs k x0.f3 A75 c76 A79 c80 t83 _ (HS.getO 1 rfl) le78 (HS.getO 0 rfl) le82 ha84) ?_
 clear ha84
 exact by (
 rintro _ w85 ⟨v86, bl87, v88, bl89, rfl, hO_, hb⟩
 replace HS := HS.got hb hO_
 dsimp only [List.cons_append, List.nil_append] at HS
 clear hO_
 obtain ⟨I90, bl91, HS⟩ := HS.unseal (sz := 1) rfl
 replace HS := HS.front 2 rfl
 dsimp only [List.eraseIdx] at HS
 obtain ⟨I92, bl93, HS⟩ := HS.unseal (sz := 1) rfl
 exact by (
 refine ⟨_, rfl, ?_⟩
 clear hb
 refine v_ (fa_ underlying118) ?_
 obtain ⟨A95, c96, rfl⟩ := row_slice (HS.mu 2 rfl)
 obtain ⟨A97, c98, rfl⟩ := row_slice (HS.mu 0 rfl)
 refine WL.storeS HS 13 rfl rfl rfl rfl rfl rfl (oneL rfl) (by kernel_rfl) (ble_ rfl) (cs' := #[(.slice A22 t14.length c23), vi t33.f0, (.slice A45 t33.f1.length c46), (.slice A47 t33.f2.length c48), vi t33.f3, vi t33.f4, vi t58.f0, (.slice A70 t58.f1.length c71), (.slice A72 t58.f2.length c73), vi t58.f3, vi t58.f4, vi t83.f0, (.slice A95 t83.f1.length c96), (.slice A97 t83.f2.length c98), vi t83.f3, vi t83.f4, vi 0, sn, sn, vi 0, vi 0, sn, vi 0, sn, sn, vi 0, vi 0, vi 0, sn, sn, vi 0, vi 0]) (by kernel_rfl) (fun w94 HS => ?_)
 dsimp only [List.set] at HS
 refine dn_ hK74 (sr_ fun _ hK99 => ?_)
 exact by (
 clear hK74
 refine v_ (fa_ underlying215) ?_
 obtain ⟨A100, c101, hc102, le103, HS⟩ := HS.sO 7 rfl at215_17
 obtain ⟨A104, c105, hc106, le107, HS⟩ := HS.sO 8 rfl at215_18
 refine v_ (ls_ (HS.mu 15 rfl) underlying44 (part_cons (at215_16 (HS.aO 9 rfl)).int (part_cons hc102 (part_cons hc106 (part_cons (at215_19 (HS.aO 9 rfl)).int (part_cons (at215_20 (HS.aO 9 rfl)).int part_nil)))))) ?_
 obtain ⟨t108, ha109, H⟩ := bind_some H
 refine c_ func101 (laws_toMatrix.runs k x0.f4 A100 c101 A104 c105 t108 _ (HS.getO 1 rfl) le103 (HS.getO 0 rfl) le107 ha109) ?_
 clear ha109
 exact by (
 rintro _ w110 ⟨v111, bl112, v113, bl114, rfl, hO_, hb⟩
 replace HS := HS.got hb hO_
 dsimp only [List.cons_append, List.nil_append] at HS
 clear hO_
 obtain ⟨I115, bl116, HS⟩ := HS.unseal (sz := 1) rfl
 replace HS := HS.front 2 rfl
 dsimp only [List.eraseIdx] at HS
 obtain ⟨I117, bl118, HS⟩ := HS.unseal (sz := 1) rfl
 exact by (
 refine ⟨_, rfl, ?_⟩
 clear hb
 refine v_ (fa_ underlying118) ?_
 obtain ⟨A120, c121, rfl⟩ := row_slice (HS.mu 2 rfl)
 obtain ⟨A122, c123, rfl⟩ := row_slice (HS.mu 0 rfl)
 refine WL.storeS HS 17 rfl rfl rfl rfl rfl rfl (oneL rfl) (by kernel_rfl) (ble_ rfl) (cs' := #[(.slice A22 t14.length c23), vi t33.f0, (.slice A45 t33.f1.length c46), (.slice A47 t33.f2.length c48), vi t33.f3, vi t33.f4, vi t58.f0, (.slice A70 t58.f1.length c71), (.slice A72 t58.f2.length c73), vi t58.f3, vi t58.f4, vi t83.f0, (.slice A95 t83.f1.length c96), (.slice A97 t83.f2.length c98), vi t83.f3, vi t83.f4, vi t108.f0, (.slice A120 t108.f1.length c121), (.slice A122 t108.f2.length c123), vi t108.f3, vi t108.f4, sn, vi 0, sn, sn, vi 0, vi 0, vi 0, sn, sn, vi 0, vi 0]) (by kernel_rfl) (fun w119 HS => ?_)
 dsimp only [List.set] at HS
 refine dn_ hK99 (sr_ fun _ hK124 => ?_)
 exact by (
 clear hK99
 refine v_ (fa_ underlying215) ?_
 obtain ⟨A125, c126, hc127, le128, HS⟩ := HS.sO 9 rfl at215_21
 refine v_ (lb_ (HS.mu 19 rfl) underlying28 hc127) ?_
 obtain ⟨t129, ha130, H⟩ := bind_some H
 refine c_ func21 (laws_toIntS.runs k A125 c126 x0.f5 t129 _ (HS.getO 0 rfl) le128 ha130) ?_
 clear ha130
 rintro _ w131 ⟨v132, bl133, rfl, hO_, hb⟩
 exact by (
 replace HS := HS.got hb hO_
 dsimp only [List.cons_append, List.nil_append] at HS
 clear hO_
 obtain ⟨I134, bl135, HS⟩ := HS.unseal (sz := 1) rfl
 replace HS := HS.freezeN 1 (p := (rF kI t129 I134)) rfl (fun _ hP_ _ => RepsB.reps hP_)
 dsimp only [List.eraseIdx] at HS
 refine ⟨_, rfl, ?_⟩
 clear hb
 exact by (
 refine v_ (fa_ underlying118) ?_
 obtain ⟨A137, c138, rfl⟩ := row_slice (HS.mu 0 rfl)
 refine WL.store HS 18 rfl rfl rfl rfl rfl rfl rfl (by kernel_rfl) (ble_ rfl) (cs' := #[(.slice A22 t14.length c23), vi t33.f0, (.slice A45 t33.f1.length c46), (.slice A47 t33.f2.length c48), vi t33.f3, vi t33.f4, vi t58.f0, (.slice A70 t58.f1.length c71), (.slice A72 t58.f2.length c73), vi t58.f3, vi t58.f4, vi t83.f0, (.slice A95 t83.f1.length c96), (.slice A97 t83.f2.length c98), vi t83.f3, vi t83.f4, vi t108.f0, (.slice A120 t108.f1.length c121), (.slice A122 t108.f2.length c123), vi t108.f3, vi t108.f4, (.slice A137 t129.length c138), vi 0, sn, sn, vi 0, vi 0, vi 0, sn, sn, vi 0, vi 0]) (by kernel_rfl) (fun w136 HS => ?_)
 dsimp only [List.set] at HS
 refine dn_ hK124 (sr_ fun _ hK139 => ?_)
 clear hK124
 refine v_ (fa_ underlying215) ?_
 obtain ⟨A140, c141, hc142, le143, HS⟩ := HS.sO 10 rfl at215_23
 exact by (
 obtain ⟨A144, c145, hc146, le147, HS⟩ := HS.sO 11 rfl at215_24
 refine v_ (ls_ (HS.mu 20 rfl) underlying44 (part_cons (at215_22 (HS.aO 12 rfl)).int (part_cons hc142 (part_cons hc146 (part_cons (at215_25 (HS.aO 12 rfl)).int (part_cons (at215_26 (HS.aO 12 rfl)).int part_nil)))))) ?_
 obtain ⟨t148, ha149, H⟩ := bind_some H
 refine c_ func101 (laws_toMatrix.runs k x0.f6 A140 c141 A144 c145 t148 _ (HS.getO 1 rfl) le143 (HS.getO 0 rfl) le147 ha149) ?_
 clear ha149
 rintro _ w150 ⟨v151, bl152, v153, bl154, rfl, hO_, hb⟩
 replace HS := HS.got hb hO_
 dsimp only [List.cons_append, List.nil_append] at HS
 exact by (
 clear hO_
 obtain ⟨I155, bl156, HS⟩ := HS.unseal (sz := 1) rfl
 replace HS := HS.front 2 rfl
 dsimp only [List.eraseIdx] at HS
 obtain ⟨I157, bl158, HS⟩ := HS.unseal (sz := 1) rfl
 refine ⟨_, rfl, ?_⟩
 clear hb
 refine v_ (fa_ underlying118) ?_
 exact by (
 obtain ⟨A160, c161, rfl⟩ := row_slice (HS.mu 2 rfl)
 obtain ⟨A162, c163, rfl⟩ := row_slice (HS.mu 0 rfl)
 refine WL.storeS HS 22 rfl rfl rfl rfl rfl rfl (oneL rfl) (by kernel_rfl) (ble_ rfl) (cs' := #[(.slice A22 t14.length c23), vi t33.f0, (.slice A45 t33.f1.length c46), (.slice A47 t33.f2.length c48), vi t33.f3, vi t33.f4, vi t58.f0, (.slice A70 t58.f1.length c71), (.slice A72 t58.f2.length c73), vi t58.f3, vi t58.f4, vi t83.f0, (.slice A95 t83.f1.length c96), (.slice A97 t83.f2.length c98), vi t83.f3, vi t83.f4, vi t108.f0, (.slice A120 t108.f1.length c121), (.slice A122 t108.f2.length c123), vi t108.f3, vi t108.f4, (.slice A137 t129.length c138), vi t148.f0, (.slice A160 t148.f1.length c161), (.slice A162 t148.f2.length c163), vi t148.f3, vi t148.f4, vi 0, sn, sn, vi 0, vi 0]) (by kernel_rfl) (fun w159 HS => ?_)
 dsimp only [List.set] at HS
 refine dn_ hK139 (sr_ fun _ hK164 => ?_)
 clear hK139
 refine v_ (fa_ underlying215) ?_
 obtain ⟨A165, c166, hc167, le168, HS⟩ := HS.sO 12 rfl at215_28
 exact by (
 obtain ⟨A169, c170, hc171, le172, HS⟩ := HS.sO 13 rfl at215_29
 refine v_ (ls_ (HS.mu 24 rfl) underlying44 (part_cons (at215_27 (HS.aO 14 rfl)).int (part_cons hc167 (part_cons hc171 (part_cons (at215_30 (HS.aO 14 rfl)).int (part_cons (at215_31 (HS.aO 14 rfl)).int part_nil)))))) ?_
 obtain ⟨t173, ha174, H⟩ := bind_some H
 refine c_ func101 (laws_toMatrix.runs k x0.f7 A165 c166 A169 c170 t173 _ (HS.getO 1 rfl) le168 (HS.getO 0 rfl) le172 ha174) ?_
 clear ha174
 rintro _ w175 ⟨v176, bl177, v178, bl179, rfl, hO_, hb⟩
 replace HS := HS.got hb hO_
 dsimp only [List.cons_append, List.nil_append] at HS
 exact by (
 clear hO_
 obtain ⟨I180, bl181, HS⟩ := HS.unseal (sz := 1) rfl
 replace HS := HS.front 2 rfl
 dsimp only [List.eraseIdx] at HS
 obtain ⟨I182, bl183, HS⟩ := HS.unseal (sz := 1) rfl
 refine ⟨_, rfl, ?_⟩
 clear hb
 refine v_ (fa_ underlying118) ?_
 exact by (
 obtain ⟨A185, c186, rfl⟩ := row_slice (HS.mu 2 rfl)
 obtain ⟨A187, c188, rfl⟩ := row_slice (HS.mu 0 rfl)
 refine WL.storeS HS 26 rfl rfl rfl rfl rfl rfl (oneL rfl) (by kernel_rfl) (ble_ rfl) (cs' := #[(.slice A22 t14.length c23), vi t33.f0, (.slice A45 t33.f1.length c46), (.slice A47 t33.f2.length c48), vi t33.f3, vi t33.f4, vi t58.f0, (.slice A70 t58.f1.length c71), (.slice A72 t58.f2.length c73), vi t58.f3, vi t58.f4, vi t83.f0, (.slice A95 t83.f1.length c96), (.slice A97 t83.f2.length c98), vi t83.f3, vi t83.f4, vi t108.f0, (.slice A120 t108.f1.length c121), (.slice A122 t108.f2.length c123), vi t108.f3, vi t108.f4, (.slice A137 t129.length c138), vi t148.f0, (.slice A160 t148.f1.length c161), (.slice A162 t148.f2.length c163), vi t148.f3, vi t148.f4, vi t173.f0, (.slice A185 t173.f1.length c186), (.slice A187 t173.f2.length c188), vi t173.f3, vi t173.f4]) (by kernel_rfl) (fun w184 HS => ?_)
 dsimp only [List.set] at HS
 refine dn_ hK164 (sr_ fun _ hK189 => ?_)
 clear hK164
 refine v_ (ls_ (HS.mu 26 rfl) underlying118 part_all) ?_
 refine WL.storeW HS 27 rfl rfl rfl rfl rfl rfl (oneL rfl) (by kernel_rfl) rfl (fun w190 HS => ?_)
 exact by (
 dsimp only [List.set] at HS
 refine dn_ hK189 (WC.ret ?_)
 clear hK189
 replace HS := HS.elsF (xs := t14) (inner := I19) (Dk.int .i64) (fun _ _ _ h_ => ⟨h_, rfl⟩) (fun _ => (HS.getN 1 rfl))
 replace HS := HS.front 26 rfl
 dsimp only [List.eraseIdx] at HS
 replace HS := HS.seal rfl rfl
 replace HS := HS.front 25 rfl
 exact by (
 dsimp only [List.eraseIdx] at HS
 replace HS := HS.front 25 rfl
 dsimp only [List.eraseIdx] at HS
 replace HS := HS.seal rfl rfl
 replace HS := HS.front 24 rfl
 dsimp only [List.eraseIdx] at HS
 replace HS := HS.front 24 rfl
 dsimp only [List.eraseIdx] at HS
 exact by (
 replace HS := HS.seal rfl rfl
 replace HS := HS.front 23 rfl
 dsimp only [List.eraseIdx] at HS
 replace HS := HS.front 23 rfl
 dsimp only [List.eraseIdx] at HS
 replace HS := HS.seal rfl rfl
 replace HS := HS.front 22 rfl
 dsimp only [List.eraseIdx] at HS
 exact by (
 replace HS := HS.front 22 rfl
 dsimp only [List.eraseIdx] at HS
 replace HS := HS.seal rfl rfl
 replace HS := HS.front 21 rfl
 dsimp only [List.eraseIdx] at HS
 replace HS := HS.front 21 rfl
 dsimp only [List.eraseIdx] at HS
 replace HS := HS.seal rfl rfl
 exact by (
 replace HS := HS.front 20 rfl
 dsimp only [List.eraseIdx] at HS
 replace HS := HS.front 20 rfl
 dsimp only [List.eraseIdx] at HS
 replace HS := HS.seal rfl rfl
 replace HS := HS.front 19 rfl
 dsimp only [List.eraseIdx] at HS
 replace HS := HS.front 19 rfl
 exact by (
 dsimp only [List.eraseIdx] at HS
 replace HS := HS.seal rfl rfl
 replace HS := HS.front 18 rfl
 dsimp only [List.eraseIdx] at HS
 replace HS := HS.front 18 rfl
 dsimp only [List.eraseIdx] at HS
 replace HS := HS.seal rfl rfl
 replace HS := HS.elsF (xs := t129) (inner := I134) (Dk.int .i64) (fun _ _ _ h_ => ⟨h_, rfl⟩) (fun _ => (HS.getN 0 rfl))
 exact by (
 replace HS := HS.front 18 rfl
 dsimp only [List.eraseIdx] at HS
 replace HS := HS.seal rfl rfl
 replace HS := HS.front 17 rfl
 dsimp only [List.eraseIdx] at HS
 replace HS := HS.front 17 rfl
 dsimp only [List.eraseIdx] at HS
 replace HS := HS.seal rfl rfl
 exact by (
 replace HS := HS.front 16 rfl
 dsimp only [List.eraseIdx] at HS
 replace HS := HS.front 16 rfl
 dsimp only [List.eraseIdx] at HS
 replace HS := HS.seal rfl rfl
 replace HS := HS.front 15 rfl
 dsimp only [List.eraseIdx] at HS
 replace HS := HS.front 15 rfl
 exact by (
 dsimp only [List.eraseIdx] at HS
 replace HS := HS.seal rfl rfl
 replace HS := HS.front 14 rfl
 dsimp only [List.eraseIdx] at HS
 replace HS := HS.front 14 rfl
 dsimp only [List.eraseIdx] at HS
 replace HS := HS.seal rfl rfl
 replace HS := HS.front 1 rfl
 exact by (
 dsimp only [List.eraseIdx] at HS
 replace HS := HS.front 2 rfl
 dsimp only [List.eraseIdx] at HS
 replace HS := HS.front 3 rfl
 dsimp only [List.eraseIdx] at HS
 replace HS := HS.front 4 rfl
 dsimp only [List.eraseIdx] at HS
 replace HS := HS.front 5 rfl
 exact by (
 dsimp only [List.eraseIdx] at HS
 replace HS := HS.front 6 rfl
 dsimp only [List.eraseIdx] at HS
 replace HS := HS.front 7 rfl
 dsimp only [List.eraseIdx] at HS
 replace HS := HS.front 8 rfl
 dsimp only [List.eraseIdx] at HS
 replace HS := HS.front 9 rfl
 exact by (
 dsimp only [List.eraseIdx] at HS
 replace HS := HS.front 10 rfl
 dsimp only [List.eraseIdx] at HS
 replace HS := HS.front 11 rfl
 dsimp only [List.eraseIdx] at HS
 replace HS := HS.front 12 rfl
 dsimp only [List.eraseIdx] at HS
 replace HS := HS.front 13 rfl
 exact by (
 dsimp only [List.eraseIdx] at HS
 replace HS := HS.both
 replace HS := HS.both
 replace HS := HS.both
 replace HS := HS.both
 replace HS := HS.both
 replace HS := HS.both
 replace HS := HS.both
 exact by (
 replace HS := HS.both
 replace HS := HS.both
 replace HS := HS.both
 replace HS := HS.both
 replace HS := HS.both
 replace HS := HS.both
 replace HS := HS.put0 (valM dq118 (⟨t14, (⟨t33.f0, t33.f1, t33.f2, t33.f3, t33.f4⟩ : S30), (⟨t58.f0, t58.f1, t58.f2, t58.f3, t58.f4⟩ : S30), (⟨t83.f0, t83.f1, t83.f2, t83.f3, t83.f4⟩ : S30), (⟨t108.f0, t108.f1, t108.f2, t108.f3, t108.f4⟩ : S30), t129, (⟨t148.f0, t148.f1, t148.f2, t148.f3, t148.f4⟩ : S30), (⟨t173.f0, t173.f1, t173.f2, t173.f3, t173.f4⟩ : S30)⟩ : S118) ([(.slice A22 t14.length c23), vi t33.f0, (.slice A45 t33.f1.length c46), (.slice A47 t33.f2.length c48), vi t33.f3, vi t33.f4, vi t58.f0, (.slice A70 t58.f1.length c71), (.slice A72 t58.f2.length c73), vi t58.f3, vi t58.f4, vi t83.f0, (.slice A95 t83.f1.length c96), (.slice A97 t83.f2.length c98), vi t83.f3, vi t83.f4, vi t108.f0, (.slice A120 t108.f1.length c121), (.slice A122 t108.f2.length c123), vi t108.f3, vi t108.f4, (.slice A137 t129.length c138), vi t148.f0, (.slice A160 t148.f1.length c161), (.slice A162 t148.f2.length c163), vi t148.f3, vi t148.f4, vi t173.f0, (.slice A185 t173.f1.length c186), (.slice A187 t173.f2.length c188), vi t173.f3, vi t173.f4]) ((((((((((((((((.slice A22 t14.length c23) : Value).ownBlock.toList ++ []) ++ (((.slice A45 t33.f1.length c46) : Value).ownBlock.toList ++ bl41)) ++ (((.slice A47 t33.f2.length c48) : Value).ownBlock.toList ++ bl43)) ++ (((.slice A70 t58.f1.length c71) : Value).ownBlock.toList ++ bl66)) ++ (((.slice A72 t58.f2.length c73) : Value).ownBlock.toList ++ bl68)) ++ (((.slice A95 t83.f1.length c96) : Value).ownBlock.toList ++ bl91)) ++ (((.slice A97 t83.f2.length c98) : Value).ownBlock.toList ++ bl93)) ++ (((.slice A120 t108.f1.length c121) : Value).ownBlock.toList ++ bl116)) ++ (((.slice A122 t108.f2.length c123) : Value).ownBlock.toList ++ bl118)) ++ (((.slice A137 t129.length c138) : Value).ownBlock.toList ++ [])) ++ (((.slice A160 t148.f1.length c161) : Value).ownBlock.toList ++ bl156)) ++ (((.slice A162 t148.f2.length c163) : Value).ownBlock.toList ++ bl158)) ++ (((.slice A185 t173.f1.length c186) : Value).ownBlock.toList ++ bl181)) ++ (((.slice A187 t173.f2.length c188) : Value).ownBlock.toList ++ bl183))) (fun hP_ => foot_val (dq118_mk _ (⟨t14, (⟨t33.f0, t33.f1, t33.f2, t33.f3, t33.f4⟩ : S30), (⟨t58.f0, t58.f1, t58.f2, t58.f3, t58.f4⟩ : S30), (⟨t83.f0, t83.f1, t83.f2, t83.f3, t83.f4⟩ : S30), (⟨t108.f0, t108.f1, t108.f2, t108.f3, t108.f4⟩ : S30), t129, (⟨t148.f0, t148.f1, t148.f2, t148.f3, t148.f4⟩ : S30), (⟨t173.f0, t173.f1, t173.f2, t173.f3, t173.f4⟩ : S30)⟩ : S118) hP_.1.1.1.1.1.1.1.1.1.1.1.1.1 hP_.1.1.1.1.1.1.1.1.1.1.1.1.2 hP_.1.1.1.1.1.1.1.1.1.1.1.2 hP_.1.1.1.1.1.1.1.1.1.1.2 hP_.1.1.1.1.1.1.1.1.1.2 hP_.1.1.1.1.1.1.1.1.2 hP_.1.1.1.1.1.1.1.2 hP_.1.1.1.1.1.1.2 hP_.1.1.1.1.1.2 hP_.1.1.1.1.2 hP_.1.1.1.2 hP_.1.1.2 hP_.1.2 hP_.2)) (fun h_ => h_) (fun _ h_ => h_)
 obtain rfl := os H
 exact fin1 Tryz.f182 rfl ⟨_, rfl, resv_box (HS.mu 2 rfl) underlying118 rfl (by kernel_rfl)⟩ hR_ ⟨_, _, rfl, (St.owns (St.forget (St.forget (St.forget HS 3 rfl) 2 rfl) 1 rfl)), HS.b⟩ ))))))))))))))))))))))))))))))))))))))
def laws_toLayerS.b0 (l0 : List S215) (rec_ : Int → (List S118) → Option (Int × (List S118))) (k28 : Nat) (i15 : Int) (xs16 : List S118) : Option (Int × (List S118)) := (if i15 < (l0.length : Int) then (if 0 ≤ i15 ∧ i15 < (l0.length : Int) then ((laws_toLayer.g k28 (l0.getD i15.toNat o215)).bind fun t38 => (if 0 ≤ i15 ∧ i15 < ((xs16.length : Nat) : Int) then (rec_ (wrap64 (i15 + 1)) (xs16.set i15.toNat t38)) else none)) else none) else (some (i15, xs16)))
def laws_toLayerS.l0 (l0 : List S215) : Nat → Int → (List S118) → Option (Int × (List S118))
 | 0, _, _ => none
 | k + 1, i15, xs16 => laws_toLayerS.b0 l0 (laws_toLayerS.l0 l0 k) k i15 xs16
def laws_toLayerS.g (k : Nat) (l0 : List S215) : Option (List S118) := (if 0 ≤ (l0.length : Int) ∧ (l0.length : Int) < 4294967296 then ((laws_toLayerS.l0 l0 k 0 (List.replicate (l0.length : Int).toNat o118)).bind (fun oc26 => (some oc26.2))) else none)
theorem laws_toLayerS.runs (k : Nat) (A0 : Option Addr) (c0 : Nat) (l0 : List S215) (r : List S118) (w : World) (hr0 : k215.C w A0 l0.length l0) (hc0 : l0.length ≤ c0) (H : laws_toLayerS.g k l0 = some r) :
   Calls prog 100 #[.slice A0 l0.length c0] w fun e w' => ∃ (v0_ : Value) (bl0_ : List Nat), e = .returned (v0_) ∧ Owns w' w.heap.size [valM (Dk.slice 118 dq118) r [v0_] bl0_] ∧ Below w.heap.size w w' := by
 unfold laws_toLayerS.g at H
 have HS : St (fun _ => True) w w [] [(cF k215 A0 l0)] [] := St.start (foot_cons (foot_C h215 hr0) foot_nil)
 refine cw_ (n := 23) func100 fun R_ hR_ => ?_
 refine sr_ fun _ hK1 => ?_
 refine ad_ hK1 ?_
 refine sr_ fun _ hK2 => ?_
 refine mv_ ?_
 refine ln_ underlying43 ?_
 obtain ⟨⟨q3, q4⟩, H⟩ := if_some H
 refine WL.makeO dq118 HS rfl rfl (by decide) rfl rfl rfl (.agg zz1) 480 o118 underlying27 (by kernel_rfl) rfl (by decide) (by decide) (fun _ => (dq118_mk _ o118 ⟨sn, [], [], rfl, rfl, own_nil _ _ _ _, RepsB.none _ _⟩ ⟨sn, [], [], rfl, rfl, own_nil _ _ _ _, RepsB.none _ _⟩ ⟨sn, [], [], rfl, rfl, own_nil _ _ _ _, RepsB.none _ _⟩ ⟨sn, [], [], rfl, rfl, own_nil _ _ _ _, RepsB.none _ _⟩ ⟨sn, [], [], rfl, rfl, own_nil _ _ _ _, RepsB.none _ _⟩ ⟨sn, [], [], rfl, rfl, own_nil _ _ _ _, RepsB.none _ _⟩ ⟨sn, [], [], rfl, rfl, own_nil _ _ _ _, RepsB.none _ _⟩ ⟨sn, [], [], rfl, rfl, own_nil _ _ _ _, RepsB.none _ _⟩ ⟨sn, [], [], rfl, rfl, own_nil _ _ _ _, RepsB.none _ _⟩ ⟨sn, [], [], rfl, rfl, own_nil _ _ _ _, RepsB.none _ _⟩ ⟨sn, [], [], rfl, rfl, own_nil _ _ _ _, RepsB.none _ _⟩ ⟨sn, [], [], rfl, rfl, own_nil _ _ _ _, RepsB.none _ _⟩ ⟨sn, [], [], rfl, rfl, own_nil _ _ _ _, RepsB.none _ _⟩ ⟨sn, [], [], rfl, rfl, own_nil _ _ _ _, RepsB.none _ _⟩)) q3 (by omega) (fun v5 w6 I7 HS => ?_)
 refine ad_ hK2 ?_
 refine WC.seq fun K9 hK9 => ?_
 refine sr_ fun _ hK10 => ?_
 refine ad_ hK10 ?_
 refine WC.block ?_
 obtain ⟨G11, hG12, oc13, H, Ho14⟩ := open_G H
 let J20 := fun (i15 : Int) (xs16 : List S118) v17 I18 bl19 (E_ : Env) (W_ : World) => E_ = [(0, .slice A0 l0.length c0), (3, v17), (4, vi i15)] ∧ St (fun _ => True) w W_ [rowM w.heap.size 118 32 v17 xs16.length I18, elsM dq118 xs16 I18 bl19] [(cF k215 A0 l0)] []
 have X21 : ∀ E_ W_, (∃ i15 xs16 v17 I18 bl19, G11 (i15, xs16) = some r ∧ J20 i15 xs16 v17 I18 bl19 E_ W_) → ∀ a, Fits a 23 E_ → K9 a W_ := by
   rintro E_ w22 ⟨i15, xs16, v17, I18, bl19, H, rfl, HS⟩
   rw [hG12] at H
   (try dsimp only at H)
   refine hK9 _ _ ?_
   refine sr_ fun _ hK23 => ?_
   refine mv_ ?_
   refine ad_ hK23 ?_
   refine WC.ret ?_
   obtain ⟨A24, c25, rfl⟩ := row_slice (HS.mu 0 rfl)
   replace HS := HS.front 1 rfl
   dsimp only [List.eraseIdx] at HS
   replace HS := HS.front 1 rfl
   dsimp only [List.eraseIdx] at HS
   replace HS := HS.seal rfl rfl
   obtain rfl := os H
   exact fin1 Tryz.f100 rfl rfl hR_ ⟨_, _, rfl, (St.owns HS), HS.b⟩
 clear hK9
 refine WC.loop (fun k_ E_ W_ => ∃ i15 xs16 v17 I18 bl19, (∃ o_, laws_toLayerS.l0 l0 k_ i15 xs16 = some o_ ∧ G11 o_ = some r) ∧ J20 i15 xs16 v17 I18 bl19 E_ W_) k ⟨0, (List.replicate (l0.length : Int).toNat o118), v5, I7, ([]), ⟨_, H, Ho14⟩, rfl, HS⟩ (sb rfl) ?_
 rintro k_ E_ w27 ⟨i15, xs16, v17, I18, bl19, ⟨oc13, H, Ho14⟩, rfl, HS⟩
 rcases k_ with _ | k28
 · exact no_ H
 replace H : laws_toLayerS.b0 l0 (laws_toLayerS.l0 l0 k28) k28 i15 xs16 = some oc13 := H
 unfold laws_toLayerS.b0 at H
 refine WC.seq fun _ hK29 => ?_
 refine sr_ fun _ hK30 => ?_
 refine mv_ ?_
 refine mv_ ?_
 refine ln_ underlying43 ?_
 refine b_ bin_lss ?_
 refine dn_ hK30 ?_
 rcases eti_ H with ⟨c31, H⟩ | ⟨c31, H⟩
 · refine wn_ (dF c31) (WC.exit ?_)
   obtain rfl := os H
   exact wv_ iq X21 ⟨i15, xs16, v17, I18, bl19, Ho14, rfl, HS⟩
 refine wy_ (dT c31) (WC.skip (via_ hK29 (WC.seq fun _ hK32 => ?_)))
 refine WC.block (rg_ (mv_ ?_))
 refine mv_ ?_
 refine mv_ ?_
 refine mv_ ?_
 obtain ⟨⟨q33, q34⟩, H⟩ := if_some H
 obtain ⟨ad35, rfl⟩ := C_open (HS.getO 0 rfl) (lenpos q33 q34)
 refine v_ (ia_ underlying43 32 q33 q34) ?_
 obtain ⟨e36, el37, HS⟩ := HS.elO 0 rfl (by decide) o215 i15 q33 q34
 replace HS := HS.deriveO (p := (kF k215 (l0.getD i15.toNat o215) e36)) (fun W_ hO_ hN_ => hO_.1.1)
 refine v_ (Run.loadS (cs := e36) rfl rfl underlying215 rfl (by rw [el37]; kernel_rfl) (HS.getO 1 rfl).2) ?_
 obtain ⟨t38, ha39, H⟩ := bind_some H
 refine c_ func182 (laws_toLayer.runs k28 e36 (l0.getD i15.toNat o215) t38 _ (HS.getO 0 rfl) ha39) ?_
 clear ha39
 rintro _ w40 ⟨cs41, bl42, rfl, hO_, hb⟩
 replace HS := HS.got hb hO_
 dsimp only [List.cons_append, List.nil_append] at HS
 clear hO_
 have el43 : cs41.length = 32 := k118.K_len (HS.valK 0 rfl)
 refine ⟨_, rfl, ?_⟩
 clear hb
 obtain ⟨⟨q44, q45⟩, H⟩ := if_some H
 obtain ⟨A46, c47, rfl⟩ := row_slice (HS.mu 1 rfl)
 obtain ⟨ad48, rfl⟩ := row_open (HS.mu 1 rfl) (lenpos q44 q45)
 refine v_ (ia_ underlying27 32 q44 q45) ?_
 have hk_ := mul_room q44 q45 32
 refine WL.putEl HS 1 rfl rfl rfl rfl rfl rfl cs41 rfl (Kd.K_one _ (HS.valK 0 rfl)) (by rw [el43]; kernel_rfl) (by first | omega | (rw [el43]; omega) | (simp; omega)) (fun w49 I50 hI51 HS => ?_)
 dsimp only [List.set] at HS
 clear hk_
 replace HS := HS.rowN 1 rfl (show xs16.length = (xs16.set i15.toNat t38).length from (List.length_set ..).symm)
 dsimp only [List.set] at HS
 replace HS := HS.front 2 rfl
 dsimp only [List.eraseIdx] at HS
 replace HS := HS.front 1 rfl
 dsimp only [List.eraseIdx] at HS
 obtain ⟨bl52, HS⟩ := HS.elsSet i15.toNat rfl hI51 (toNat_lt q44 q45)
 generalize hv54 : (Value.slice (some ad48) xs16.length c47) = v53 at HS ⊢
 refine dn_ hK32 (rg_ (mv_ ?_))
 refine b_ bin_add64 ?_
 refine as_ ?_
 refine WL.done ?_
 exact wr_ k28 iq ⟨(wrap64 (i15 + 1)), (xs16.set i15.toNat t38), v53, I50, bl52, ⟨_, H, Ho14⟩, rfl, (St.pk (St.front (St.front HS 0 rfl) 1 rfl) [2] [] rfl rfl)⟩
def laws_toModel.g (k : Nat) (x0 : S47) : Option S34 := ((laws_toMergeS.g k x0.f3).bind fun t20 => ((laws_toIntSS.g k x0.f4).bind fun t35 => ((laws_toLayerS.g k x0.f5).bind fun t50 => ((laws_toIntS.g k x0.f6).bind fun t65 => ((laws_toMatrix.g k x0.f7).bind fun t84 => ((laws_toTurns.g k x0.f8).bind fun t109 => (some (⟨x0.f0, x0.f1, x0.f2, t20, t35, t50, t65, (⟨t84.f0, t84.f1, t84.f2, t84.f3, t84.f4⟩ : S30), (⟨t109.f0, t109.f1⟩ : S32)⟩ : S34))))))))
theorem laws_toModel.runs (k : Nat) (cs0 : List Value) (x0 : S47) (r : S34) (w : World) (hk0 : k47.K w x0 cs0) (H : laws_toModel.g k x0 = some r) :
   Calls prog 20 #[.agg cs0.toArray] w fun e w' => ∃ (cs0_ : List Value) (bl0_ : List Nat), e = .returned (.agg cs0_.toArray) ∧ Owns w' w.heap.size [valM dq34 r cs0_ bl0_] ∧ Below w.heap.size w w' := by
 have el0 : cs0.length = 14 := k47.K_len hk0
 unfold laws_toModel.g at H
 have HS : St (fun _ => True) w w [] [(kF k47 x0 cs0)] [] := St.start (foot_cons (foot_K h47 hk0) foot_nil)
 refine cw_ (n := 38) func20 fun R_ hR_ => ?_
 refine sr_ fun _ hK1 => ?_
 refine bo_ HS (fun b2 w3 hb2 HS => ?_)
 refine WL.alloc HS (v := .agg zz2) (cs := zz2) rfl rfl (by decide) rfl (by kernel_rfl) rfl (fun b4 w5 hb4 HS => ?_)
 refine dn_ hK1 (sr_ fun _ hK6 => ?_)
 exact by (
 clear hK1
 refine WL.alloc HS (v := .agg zz2) (cs := zz2) rfl rfl (by decide) rfl (by kernel_rfl) rfl (fun b7 w8 hb7 HS => ?_)
 refine dn_ hK6 (sr_ fun _ hK9 => ?_)
 clear hK6
 refine v_ (fa_ underlying47) ?_
 refine v_ (lb_ (HS.mu 2 rfl) underlying3 (at47_0 (HS.aO 0 rfl)).int) ?_
 refine v_ (fa_ underlying34) ?_
 refine WL.store HS 0 rfl rfl rfl rfl rfl rfl rfl (by kernel_rfl) (ble_ rfl) (cs' := #[vi x0.f0, vi 0, vi 0, sn, sn, sn, sn, vi 0, sn, sn, vi 0, vi 0, sn, sn]) (by kernel_rfl) (fun w10 HS => ?_)
 exact by (
 dsimp only [List.set] at HS
 refine dn_ hK9 (sr_ fun _ hK11 => ?_)
 clear hK9
 refine v_ (fa_ underlying47) ?_
 refine v_ (lb_ (HS.mu 2 rfl) underlying3 (at47_1 (HS.aO 0 rfl)).int) ?_
 refine v_ (fa_ underlying34) ?_
 refine WL.store HS 0 rfl rfl rfl rfl rfl rfl rfl (by kernel_rfl) (ble_ rfl) (cs' := #[vi x0.f0, vi x0.f1, vi 0, sn, sn, sn, sn, vi 0, sn, sn, vi 0, vi 0, sn, sn]) (by kernel_rfl) (fun w12 HS => ?_)
 dsimp only [List.set] at HS
 exact by (
 refine dn_ hK11 (sr_ fun _ hK13 => ?_)
 clear hK11
 refine v_ (fa_ underlying47) ?_
 refine v_ (lb_ (HS.mu 2 rfl) underlying3 (at47_2 (HS.aO 0 rfl)).int) ?_
 refine v_ (fa_ underlying34) ?_
 refine WL.store HS 0 rfl rfl rfl rfl rfl rfl rfl (by kernel_rfl) (ble_ rfl) (cs' := #[vi x0.f0, vi x0.f1, vi x0.f2, sn, sn, sn, sn, vi 0, sn, sn, vi 0, vi 0, sn, sn]) (by kernel_rfl) (fun w14 HS => ?_)
 dsimp only [List.set] at HS
 refine dn_ hK13 (sr_ fun _ hK15 => ?_)
 exact by (
 clear hK13
 refine v_ (fa_ underlying47) ?_
 obtain ⟨A16, c17, hc18, le19, HS⟩ := HS.sO 0 rfl at47_3
 refine v_ (lb_ (HS.mu 2 rfl) underlying42 hc18) ?_
 obtain ⟨t20, ha21, H⟩ := bind_some H
 refine c_ func98 (laws_toMergeS.runs k A16 c17 x0.f3 t20 _ (HS.getO 0 rfl) le19 ha21) ?_
 clear ha21
 rintro _ w22 ⟨v23, bl24, rfl, hO_, hb⟩
 exact by (
 replace HS := HS.got hb hO_
 dsimp only [List.cons_append, List.nil_append] at HS
 clear hO_
 obtain ⟨I25, bl26, HS⟩ := HS.unseal (sz := 2) rfl
 replace HS := HS.freezeN 1 (p := (rF k114 t20 I25)) rfl (fun _ hP_ _ => RepsB.reps hP_)
 dsimp only [List.eraseIdx] at HS
 refine ⟨_, rfl, ?_⟩
 clear hb
 exact by (
 refine v_ (fa_ underlying34) ?_
 obtain ⟨A28, c29, rfl⟩ := row_slice (HS.mu 0 rfl)
 refine WL.store HS 1 rfl rfl rfl rfl rfl rfl rfl (by kernel_rfl) (ble_ rfl) (cs' := #[vi x0.f0, vi x0.f1, vi x0.f2, (.slice A28 t20.length c29), sn, sn, sn, vi 0, sn, sn, vi 0, vi 0, sn, sn]) (by kernel_rfl) (fun w27 HS => ?_)
 dsimp only [List.set] at HS
 refine dn_ hK15 (sr_ fun _ hK30 => ?_)
 clear hK15
 refine v_ (fa_ underlying47) ?_
 obtain ⟨A31, c32, hc33, le34, HS⟩ := HS.sO 1 rfl at47_4
 exact by (
 refine v_ (lb_ (HS.mu 3 rfl) underlying26 hc33) ?_
 obtain ⟨t35, ha36, H⟩ := bind_some H
 refine c_ func99 (laws_toIntSS.runs k A31 c32 x0.f4 t35 _ (HS.getO 0 rfl) le34 ha36) ?_
 clear ha36
 rintro _ w37 ⟨v38, bl39, rfl, hO_, hb⟩
 replace HS := HS.got hb hO_
 dsimp only [List.cons_append, List.nil_append] at HS
 clear hO_
 exact by (
 obtain ⟨I40, bl41, HS⟩ := HS.unseal (sz := 1) rfl
 refine ⟨_, rfl, ?_⟩
 clear hb
 refine v_ (fa_ underlying34) ?_
 obtain ⟨A43, c44, rfl⟩ := row_slice (HS.mu 0 rfl)
 refine WL.store HS 3 rfl rfl rfl rfl rfl rfl rfl (by kernel_rfl) (ble_ rfl) (cs' := #[vi x0.f0, vi x0.f1, vi x0.f2, (.slice A28 t20.length c29), (.slice A43 t35.length c44), sn, sn, vi 0, sn, sn, vi 0, vi 0, sn, sn]) (by kernel_rfl) (fun w42 HS => ?_)
 dsimp only [List.set] at HS
 refine dn_ hK30 (sr_ fun _ hK45 => ?_)
 exact by (
 clear hK30
 refine v_ (fa_ underlying47) ?_
 obtain ⟨A46, c47, hc48, le49, HS⟩ := HS.sO 2 rfl at47_5
 refine v_ (lb_ (HS.mu 5 rfl) underlying43 hc48) ?_
 obtain ⟨t50, ha51, H⟩ := bind_some H
 refine c_ func100 (laws_toLayerS.runs k A46 c47 x0.f5 t50 _ (HS.getO 0 rfl) le49 ha51) ?_
 clear ha51
 rintro _ w52 ⟨v53, bl54, rfl, hO_, hb⟩
 exact by (
 replace HS := HS.got hb hO_
 dsimp only [List.cons_append, List.nil_append] at HS
 clear hO_
 obtain ⟨I55, bl56, HS⟩ := HS.unseal (sz := 32) rfl
 refine ⟨_, rfl, ?_⟩
 clear hb
 refine v_ (fa_ underlying34) ?_
 obtain ⟨A58, c59, rfl⟩ := row_slice (HS.mu 0 rfl)
 exact by (
 refine WL.store HS 5 rfl rfl rfl rfl rfl rfl rfl (by kernel_rfl) (ble_ rfl) (cs' := #[vi x0.f0, vi x0.f1, vi x0.f2, (.slice A28 t20.length c29), (.slice A43 t35.length c44), (.slice A58 t50.length c59), sn, vi 0, sn, sn, vi 0, vi 0, sn, sn]) (by kernel_rfl) (fun w57 HS => ?_)
 dsimp only [List.set] at HS
 refine dn_ hK45 (sr_ fun _ hK60 => ?_)
 clear hK45
 refine v_ (fa_ underlying47) ?_
 obtain ⟨A61, c62, hc63, le64, HS⟩ := HS.sO 3 rfl at47_6
 refine v_ (lb_ (HS.mu 7 rfl) underlying28 hc63) ?_
 obtain ⟨t65, ha66, H⟩ := bind_some H
 exact by (
 refine c_ func21 (laws_toIntS.runs k A61 c62 x0.f6 t65 _ (HS.getO 0 rfl) le64 ha66) ?_
 clear ha66
 rintro _ w67 ⟨v68, bl69, rfl, hO_, hb⟩
 replace HS := HS.got hb hO_
 dsimp only [List.cons_append, List.nil_append] at HS
 clear hO_
 obtain ⟨I70, bl71, HS⟩ := HS.unseal (sz := 1) rfl
 replace HS := HS.freezeN 1 (p := (rF kI t65 I70)) rfl (fun _ hP_ _ => RepsB.reps hP_)
 exact by (
 dsimp only [List.eraseIdx] at HS
 refine ⟨_, rfl, ?_⟩
 clear hb
 refine v_ (fa_ underlying34) ?_
 obtain ⟨A73, c74, rfl⟩ := row_slice (HS.mu 0 rfl)
 refine WL.store HS 6 rfl rfl rfl rfl rfl rfl rfl (by kernel_rfl) (ble_ rfl) (cs' := #[vi x0.f0, vi x0.f1, vi x0.f2, (.slice A28 t20.length c29), (.slice A43 t35.length c44), (.slice A58 t50.length c59), (.slice A73 t65.length c74), vi 0, sn, sn, vi 0, vi 0, sn, sn]) (by kernel_rfl) (fun w72 HS => ?_)
 dsimp only [List.set] at HS
 refine dn_ hK60 (sr_ fun _ hK75 => ?_)
 exact by (
 clear hK60
 refine v_ (fa_ underlying47) ?_
 obtain ⟨A76, c77, hc78, le79, HS⟩ := HS.sO 4 rfl at47_8
 obtain ⟨A80, c81, hc82, le83, HS⟩ := HS.sO 5 rfl at47_9
 refine v_ (ls_ (HS.mu 8 rfl) underlying44 (part_cons (at47_7 (HS.aO 6 rfl)).int (part_cons hc78 (part_cons hc82 (part_cons (at47_10 (HS.aO 6 rfl)).int (part_cons (at47_11 (HS.aO 6 rfl)).int part_nil)))))) ?_
 obtain ⟨t84, ha85, H⟩ := bind_some H
 refine c_ func101 (laws_toMatrix.runs k x0.f7 A76 c77 A80 c81 t84 _ (HS.getO 1 rfl) le79 (HS.getO 0 rfl) le83 ha85) ?_
 clear ha85
 exact by (
 rintro _ w86 ⟨v87, bl88, v89, bl90, rfl, hO_, hb⟩
 replace HS := HS.got hb hO_
 dsimp only [List.cons_append, List.nil_append] at HS
 clear hO_
 obtain ⟨I91, bl92, HS⟩ := HS.unseal (sz := 1) rfl
 replace HS := HS.front 2 rfl
 dsimp only [List.eraseIdx] at HS
 obtain ⟨I93, bl94, HS⟩ := HS.unseal (sz := 1) rfl
 exact by (
 refine ⟨_, rfl, ?_⟩
 clear hb
 refine v_ (fa_ underlying34) ?_
 obtain ⟨A96, c97, rfl⟩ := row_slice (HS.mu 2 rfl)
 obtain ⟨A98, c99, rfl⟩ := row_slice (HS.mu 0 rfl)
 refine WL.storeS HS 10 rfl rfl rfl rfl rfl rfl (oneL rfl) (by kernel_rfl) (ble_ rfl) (cs' := #[vi x0.f0, vi x0.f1, vi x0.f2, (.slice A28 t20.length c29), (.slice A43 t35.length c44), (.slice A58 t50.length c59), (.slice A73 t65.length c74), vi t84.f0, (.slice A96 t84.f1.length c97), (.slice A98 t84.f2.length c99), vi t84.f3, vi t84.f4, sn, sn]) (by kernel_rfl) (fun w95 HS => ?_)
 dsimp only [List.set] at HS
 refine dn_ hK75 (sr_ fun _ hK100 => ?_)
 exact by (
 clear hK75
 refine v_ (fa_ underlying47) ?_
 obtain ⟨A101, c102, hc103, le104, HS⟩ := HS.sO 6 rfl at47_12
 obtain ⟨A105, c106, hc107, le108, HS⟩ := HS.sO 7 rfl at47_13
 refine v_ (ls_ (HS.mu 12 rfl) underlying45 (part_cons hc103 (part_cons hc107 part_nil))) ?_
 obtain ⟨t109, ha110, H⟩ := bind_some H
 refine c_ func102 (laws_toTurns.runs k x0.f8 A101 c102 A105 c106 t109 _ (HS.getO 1 rfl) le104 (HS.getO 0 rfl) le108 ha110) ?_
 clear ha110
 exact by (
 rintro _ w111 ⟨v112, bl113, v114, bl115, rfl, hO_, hb⟩
 replace HS := HS.got hb hO_
 dsimp only [List.cons_append, List.nil_append] at HS
 clear hO_
 obtain ⟨I116, bl117, HS⟩ := HS.unseal (sz := 1) rfl
 replace HS := HS.front 2 rfl
 dsimp only [List.eraseIdx] at HS
 obtain ⟨I118, bl119, HS⟩ := HS.unseal (sz := 1) rfl
 exact by (
 refine ⟨_, rfl, ?_⟩
 clear hb
 refine v_ (fa_ underlying34) ?_
 obtain ⟨A121, c122, rfl⟩ := row_slice (HS.mu 2 rfl)
 obtain ⟨A123, c124, rfl⟩ := row_slice (HS.mu 0 rfl)
 refine WL.storeS HS 14 rfl rfl rfl rfl rfl rfl (oneL rfl) (by kernel_rfl) (ble_ rfl) (cs' := #[vi x0.f0, vi x0.f1, vi x0.f2, (.slice A28 t20.length c29), (.slice A43 t35.length c44), (.slice A58 t50.length c59), (.slice A73 t65.length c74), vi t84.f0, (.slice A96 t84.f1.length c97), (.slice A98 t84.f2.length c99), vi t84.f3, vi t84.f4, (.slice A121 t109.f0.length c122), (.slice A123 t109.f1.length c124)]) (by kernel_rfl) (fun w120 HS => ?_)
 dsimp only [List.set] at HS
 refine dn_ hK100 (sr_ fun _ hK125 => ?_)
 exact by (
 clear hK100
 refine v_ (ls_ (HS.mu 14 rfl) underlying34 part_all) ?_
 refine WL.storeW HS 15 rfl rfl rfl rfl rfl rfl (oneL rfl) (by kernel_rfl) rfl (fun w126 HS => ?_)
 dsimp only [List.set] at HS
 refine dn_ hK125 (WC.ret ?_)
 clear hK125
 replace HS := HS.elsF (xs := t20) (inner := I25) (dq114) (fun _ _ _ h_ => dq114_flat h_) (fun _ => (HS.getN 1 rfl))
 replace HS := HS.front 14 rfl
 exact by (
 dsimp only [List.eraseIdx] at HS
 replace HS := HS.seal rfl rfl
 replace HS := HS.front 13 rfl
 dsimp only [List.eraseIdx] at HS
 replace HS := HS.front 13 rfl
 dsimp only [List.eraseIdx] at HS
 replace HS := HS.seal rfl rfl
 replace HS := HS.front 12 rfl
 exact by (
 dsimp only [List.eraseIdx] at HS
 replace HS := HS.front 12 rfl
 dsimp only [List.eraseIdx] at HS
 replace HS := HS.seal rfl rfl
 replace HS := HS.elsF (xs := t65) (inner := I70) (Dk.int .i64) (fun _ _ _ h_ => ⟨h_, rfl⟩) (fun _ => (HS.getN 0 rfl))
 replace HS := HS.front 12 rfl
 dsimp only [List.eraseIdx] at HS
 replace HS := HS.seal rfl rfl
 exact by (
 replace HS := HS.front 11 rfl
 dsimp only [List.eraseIdx] at HS
 replace HS := HS.front 11 rfl
 dsimp only [List.eraseIdx] at HS
 replace HS := HS.seal rfl rfl
 replace HS := HS.front 10 rfl
 dsimp only [List.eraseIdx] at HS
 replace HS := HS.front 10 rfl
 exact by (
 dsimp only [List.eraseIdx] at HS
 replace HS := HS.seal rfl rfl
 replace HS := HS.front 9 rfl
 dsimp only [List.eraseIdx] at HS
 replace HS := HS.front 9 rfl
 dsimp only [List.eraseIdx] at HS
 replace HS := HS.seal rfl rfl
 replace HS := HS.front 8 rfl
 exact by (
 dsimp only [List.eraseIdx] at HS
 replace HS := HS.front 8 rfl
 dsimp only [List.eraseIdx] at HS
 replace HS := HS.seal rfl rfl
 replace HS := HS.front 1 rfl
 dsimp only [List.eraseIdx] at HS
 replace HS := HS.front 2 rfl
 dsimp only [List.eraseIdx] at HS
 exact by (
 replace HS := HS.front 3 rfl
 dsimp only [List.eraseIdx] at HS
 replace HS := HS.front 4 rfl
 dsimp only [List.eraseIdx] at HS
 replace HS := HS.front 5 rfl
 dsimp only [List.eraseIdx] at HS
 replace HS := HS.front 6 rfl
 dsimp only [List.eraseIdx] at HS
 exact by (
 replace HS := HS.front 7 rfl
 dsimp only [List.eraseIdx] at HS
 replace HS := HS.both
 replace HS := HS.both
 replace HS := HS.both
 replace HS := HS.both
 replace HS := HS.both
 replace HS := HS.both
 exact by (
 replace HS := HS.both
 replace HS := HS.put0 (valM dq34 (⟨x0.f0, x0.f1, x0.f2, t20, t35, t50, t65, (⟨t84.f0, t84.f1, t84.f2, t84.f3, t84.f4⟩ : S30), (⟨t109.f0, t109.f1⟩ : S32)⟩ : S34) ([vi x0.f0, vi x0.f1, vi x0.f2, (.slice A28 t20.length c29), (.slice A43 t35.length c44), (.slice A58 t50.length c59), (.slice A73 t65.length c74), vi t84.f0, (.slice A96 t84.f1.length c97), (.slice A98 t84.f2.length c99), vi t84.f3, vi t84.f4, (.slice A121 t109.f0.length c122), (.slice A123 t109.f1.length c124)]) ((((((((((.slice A28 t20.length c29) : Value).ownBlock.toList ++ []) ++ (((.slice A43 t35.length c44) : Value).ownBlock.toList ++ bl41)) ++ (((.slice A58 t50.length c59) : Value).ownBlock.toList ++ bl56)) ++ (((.slice A73 t65.length c74) : Value).ownBlock.toList ++ [])) ++ (((.slice A96 t84.f1.length c97) : Value).ownBlock.toList ++ bl92)) ++ (((.slice A98 t84.f2.length c99) : Value).ownBlock.toList ++ bl94)) ++ (((.slice A121 t109.f0.length c122) : Value).ownBlock.toList ++ bl117)) ++ (((.slice A123 t109.f1.length c124) : Value).ownBlock.toList ++ bl119))) (fun hP_ => foot_val (dq34_mk _ (⟨x0.f0, x0.f1, x0.f2, t20, t35, t50, t65, (⟨t84.f0, t84.f1, t84.f2, t84.f3, t84.f4⟩ : S30), (⟨t109.f0, t109.f1⟩ : S32)⟩ : S34) hP_.1.1.1.1.1.1.1 hP_.1.1.1.1.1.1.2 hP_.1.1.1.1.1.2 hP_.1.1.1.1.2 hP_.1.1.1.2 hP_.1.1.2 hP_.1.2 hP_.2)) (fun h_ => h_) (fun _ h_ => h_)
 obtain rfl := os H
 exact fin1 Tryz.f20 rfl ⟨_, rfl, resv_box (HS.mu 2 rfl) underlying34 rfl (by kernel_rfl)⟩ hR_ ⟨_, _, rfl, (St.owns (St.forget (St.forget (St.forget HS 3 rfl) 2 rfl) 1 rfl)), HS.b⟩ ))))))))))))))))))))))))))))
def laws_eqLayer.g (k : Nat) (x0 : S118) (x1 : S118) : Option Bool := ((laws_eqIntS.g k x0.f0 x1.f0).bind fun t16 => (if t16 = true then ((laws_eqMatrix.g k x0.f1 x1.f1).bind fun t38 => (if t38 = true then ((laws_eqMatrix.g k x0.f2 x1.f2).bind fun t60 => (if t60 = true then ((laws_eqMatrix.g k x0.f3 x1.f3).bind fun t82 => (if t82 = true then ((laws_eqMatrix.g k x0.f4 x1.f4).bind fun t104 => (if t104 = true then ((laws_eqIntS.g k x0.f5 x1.f5).bind fun t118 => (if t118 = true then ((laws_eqMatrix.g k x0.f6 x1.f6).bind fun t140 => (if t140 = true then ((laws_eqMatrix.g k x0.f7 x1.f7).bind fun t162 => (if t162 = true then (some true) else (some false))) else (some false))) else (some false))) else (some false))) else (some false))) else (some false))) else (some false))) else (some false)))
theorem laws_eqLayer.runs (k : Nat) (cs0 : List Value) (x0 : S118) (cs1 : List Value) (x1 : S118) (r : Bool) (w : World) (hk0 : k118.K w x0 cs0) (hk1 : k118.K w x1 cs1) (H : laws_eqLayer.g k x0 x1 = some r) :
   Calls prog 166 #[.agg cs0.toArray, .agg cs1.toArray] w fun e w' => e = .returned (.bool r) ∧ Below w.heap.size w w' := by
 have el0 : cs0.length = 32 := k118.K_len hk0
 have el1 : cs1.length = 32 := k118.K_len hk1
 unfold laws_eqLayer.g at H
 have HS : St (fun _ => True) w w [] [(kF k118 x0 cs0), (kF k118 x1 cs1)] [] := St.start (foot_cons (foot_K h118 hk0) (foot_cons (foot_K h118 hk1) foot_nil))
 refine cw_ (n := 53) func166 fun R_ hR_ => ?_
 refine sr_ fun _ hK1 => ?_
 refine bo_ HS (fun b2 w3 hb2 HS => ?_)
 refine bo_ HS (fun b4 w5 hb4 HS => ?_)
 refine ad_ hK1 ?_
 refine WC.seq fun _ hK6 => ?_
 refine sr_ fun _ hK7 => ?_
 refine v_ (fa_ underlying118) ?_
 obtain ⟨A8, c9, hc10, le11, HS⟩ := HS.sO 0 rfl at118_0
 refine v_ (lb_ (HS.mu 1 rfl) underlying28 hc10) ?_
 refine v_ (fa_ underlying118) ?_
 obtain ⟨A12, c13, hc14, le15, HS⟩ := HS.sO 2 rfl at118_0
 refine v_ (lb_ (HS.mu 0 rfl) underlying28 hc14) ?_
 obtain ⟨t16, ha17, H⟩ := bind_some H
 refine cs_ HS func24 (laws_eqIntS.runs k A8 c9 x0.f0 A12 c13 x1.f0 t16 _ (HS.getO 1 rfl) le11 (HS.getO 0 rfl) le15 ha17) (fun w18 HS => ?_)
 clear ha17
 refine nt_ ?_
 refine dn_ hK7 ?_
 rcases eti_ H with ⟨c19, H⟩ | ⟨c19, H⟩
 · refine wy_ (nB (bF c19)) (sr_ fun _ hK174 => ?_)
   refine ad_ hK174 ?_
   obtain rfl := os H
   exact rt1 Tryz.f166 rfl rfl hR_ ⟨rfl, HS.b⟩
 refine wn_ (nB c19) (WC.skip (via_ hK6 (WC.seq fun _ hK20 => ?_)))
 refine sr_ fun _ hK21 => ?_
 refine v_ (fa_ underlying118) ?_
 obtain ⟨A22, c23, hc24, le25, HS⟩ := HS.sO 2 rfl at118_2
 obtain ⟨A26, c27, hc28, le29, HS⟩ := HS.sO 3 rfl at118_3
 refine v_ (ls_ (HS.mu 1 rfl) underlying30 (part_cons (at118_1 (HS.aO 4 rfl)).int (part_cons hc24 (part_cons hc28 (part_cons (at118_4 (HS.aO 4 rfl)).int (part_cons (at118_5 (HS.aO 4 rfl)).int part_nil)))))) ?_
 refine v_ (fa_ underlying118) ?_
 obtain ⟨A30, c31, hc32, le33, HS⟩ := HS.sO 5 rfl at118_2
 obtain ⟨A34, c35, hc36, le37, HS⟩ := HS.sO 6 rfl at118_3
 refine v_ (ls_ (HS.mu 0 rfl) underlying30 (part_cons (at118_1 (HS.aO 7 rfl)).int (part_cons hc32 (part_cons hc36 (part_cons (at118_4 (HS.aO 7 rfl)).int (part_cons (at118_5 (HS.aO 7 rfl)).int part_nil)))))) ?_
 obtain ⟨t38, ha39, H⟩ := bind_some H
 refine cs_ HS func77 (laws_eqMatrix.runs k x0.f1 A22 c23 A26 c27 x1.f1 A30 c31 A34 c35 t38 _ (HS.getO 3 rfl) le25 (HS.getO 2 rfl) le29 (HS.getO 1 rfl) le33 (HS.getO 0 rfl) le37 ha39) (fun w40 HS => ?_)
 clear ha39
 refine nt_ ?_
 refine dn_ hK21 ?_
 rcases eti_ H with ⟨c41, H⟩ | ⟨c41, H⟩
 · refine wy_ (nB (bF c41)) (sr_ fun _ hK173 => ?_)
   refine ad_ hK173 ?_
   obtain rfl := os H
   exact rt1 Tryz.f166 rfl rfl hR_ ⟨rfl, HS.b⟩
 refine wn_ (nB c41) (WC.skip (via_ hK20 (WC.seq fun _ hK42 => ?_)))
 refine sr_ fun _ hK43 => ?_
 refine v_ (fa_ underlying118) ?_
 obtain ⟨A44, c45, hc46, le47, HS⟩ := HS.sO 6 rfl at118_7
 obtain ⟨A48, c49, hc50, le51, HS⟩ := HS.sO 7 rfl at118_8
 refine v_ (ls_ (HS.mu 1 rfl) underlying30 (part_cons (at118_6 (HS.aO 8 rfl)).int (part_cons hc46 (part_cons hc50 (part_cons (at118_9 (HS.aO 8 rfl)).int (part_cons (at118_10 (HS.aO 8 rfl)).int part_nil)))))) ?_
 refine v_ (fa_ underlying118) ?_
 obtain ⟨A52, c53, hc54, le55, HS⟩ := HS.sO 9 rfl at118_7
 obtain ⟨A56, c57, hc58, le59, HS⟩ := HS.sO 10 rfl at118_8
 refine v_ (ls_ (HS.mu 0 rfl) underlying30 (part_cons (at118_6 (HS.aO 11 rfl)).int (part_cons hc54 (part_cons hc58 (part_cons (at118_9 (HS.aO 11 rfl)).int (part_cons (at118_10 (HS.aO 11 rfl)).int part_nil)))))) ?_
 obtain ⟨t60, ha61, H⟩ := bind_some H
 refine cs_ HS func77 (laws_eqMatrix.runs k x0.f2 A44 c45 A48 c49 x1.f2 A52 c53 A56 c57 t60 _ (HS.getO 3 rfl) le47 (HS.getO 2 rfl) le51 (HS.getO 1 rfl) le55 (HS.getO 0 rfl) le59 ha61) (fun w62 HS => ?_)
 clear ha61
 refine nt_ ?_
 refine dn_ hK43 ?_
 rcases eti_ H with ⟨c63, H⟩ | ⟨c63, H⟩
 · refine wy_ (nB (bF c63)) (sr_ fun _ hK172 => ?_)
   refine ad_ hK172 ?_
   obtain rfl := os H
   exact rt1 Tryz.f166 rfl rfl hR_ ⟨rfl, HS.b⟩
 refine wn_ (nB c63) (WC.skip (via_ hK42 (WC.seq fun _ hK64 => ?_)))
 refine sr_ fun _ hK65 => ?_
 refine v_ (fa_ underlying118) ?_
 obtain ⟨A66, c67, hc68, le69, HS⟩ := HS.sO 10 rfl at118_12
 obtain ⟨A70, c71, hc72, le73, HS⟩ := HS.sO 11 rfl at118_13
 refine v_ (ls_ (HS.mu 1 rfl) underlying30 (part_cons (at118_11 (HS.aO 12 rfl)).int (part_cons hc68 (part_cons hc72 (part_cons (at118_14 (HS.aO 12 rfl)).int (part_cons (at118_15 (HS.aO 12 rfl)).int part_nil)))))) ?_
 refine v_ (fa_ underlying118) ?_
 obtain ⟨A74, c75, hc76, le77, HS⟩ := HS.sO 13 rfl at118_12
 obtain ⟨A78, c79, hc80, le81, HS⟩ := HS.sO 14 rfl at118_13
 refine v_ (ls_ (HS.mu 0 rfl) underlying30 (part_cons (at118_11 (HS.aO 15 rfl)).int (part_cons hc76 (part_cons hc80 (part_cons (at118_14 (HS.aO 15 rfl)).int (part_cons (at118_15 (HS.aO 15 rfl)).int part_nil)))))) ?_
 obtain ⟨t82, ha83, H⟩ := bind_some H
 refine cs_ HS func77 (laws_eqMatrix.runs k x0.f3 A66 c67 A70 c71 x1.f3 A74 c75 A78 c79 t82 _ (HS.getO 3 rfl) le69 (HS.getO 2 rfl) le73 (HS.getO 1 rfl) le77 (HS.getO 0 rfl) le81 ha83) (fun w84 HS => ?_)
 clear ha83
 refine nt_ ?_
 refine dn_ hK65 ?_
 rcases eti_ H with ⟨c85, H⟩ | ⟨c85, H⟩
 · refine wy_ (nB (bF c85)) (sr_ fun _ hK171 => ?_)
   refine ad_ hK171 ?_
   obtain rfl := os H
   exact rt1 Tryz.f166 rfl rfl hR_ ⟨rfl, HS.b⟩
 refine wn_ (nB c85) (WC.skip (via_ hK64 (WC.seq fun _ hK86 => ?_)))
 refine sr_ fun _ hK87 => ?_
 refine v_ (fa_ underlying118) ?_
 obtain ⟨A88, c89, hc90, le91, HS⟩ := HS.sO 14 rfl at118_17
 obtain ⟨A92, c93, hc94, le95, HS⟩ := HS.sO 15 rfl at118_18
 refine v_ (ls_ (HS.mu 1 rfl) underlying30 (part_cons (at118_16 (HS.aO 16 rfl)).int (part_cons hc90 (part_cons hc94 (part_cons (at118_19 (HS.aO 16 rfl)).int (part_cons (at118_20 (HS.aO 16 rfl)).int part_nil)))))) ?_
 refine v_ (fa_ underlying118) ?_
 obtain ⟨A96, c97, hc98, le99, HS⟩ := HS.sO 17 rfl at118_17
 obtain ⟨A100, c101, hc102, le103, HS⟩ := HS.sO 18 rfl at118_18
 refine v_ (ls_ (HS.mu 0 rfl) underlying30 (part_cons (at118_16 (HS.aO 19 rfl)).int (part_cons hc98 (part_cons hc102 (part_cons (at118_19 (HS.aO 19 rfl)).int (part_cons (at118_20 (HS.aO 19 rfl)).int part_nil)))))) ?_
 obtain ⟨t104, ha105, H⟩ := bind_some H
 refine cs_ HS func77 (laws_eqMatrix.runs k x0.f4 A88 c89 A92 c93 x1.f4 A96 c97 A100 c101 t104 _ (HS.getO 3 rfl) le91 (HS.getO 2 rfl) le95 (HS.getO 1 rfl) le99 (HS.getO 0 rfl) le103 ha105) (fun w106 HS => ?_)
 clear ha105
 refine nt_ ?_
 refine dn_ hK87 ?_
 rcases eti_ H with ⟨c107, H⟩ | ⟨c107, H⟩
 · refine wy_ (nB (bF c107)) (sr_ fun _ hK170 => ?_)
   refine ad_ hK170 ?_
   obtain rfl := os H
   exact rt1 Tryz.f166 rfl rfl hR_ ⟨rfl, HS.b⟩
 refine wn_ (nB c107) (WC.skip (via_ hK86 (WC.seq fun _ hK108 => ?_)))
 refine sr_ fun _ hK109 => ?_
 refine v_ (fa_ underlying118) ?_
 obtain ⟨A110, c111, hc112, le113, HS⟩ := HS.sO 18 rfl at118_21
 refine v_ (lb_ (HS.mu 1 rfl) underlying28 hc112) ?_
 refine v_ (fa_ underlying118) ?_
 obtain ⟨A114, c115, hc116, le117, HS⟩ := HS.sO 20 rfl at118_21
 refine v_ (lb_ (HS.mu 0 rfl) underlying28 hc116) ?_
 obtain ⟨t118, ha119, H⟩ := bind_some H
 refine cs_ HS func24 (laws_eqIntS.runs k A110 c111 x0.f5 A114 c115 x1.f5 t118 _ (HS.getO 1 rfl) le113 (HS.getO 0 rfl) le117 ha119) (fun w120 HS => ?_)
 clear ha119
 refine nt_ ?_
 refine dn_ hK109 ?_
 rcases eti_ H with ⟨c121, H⟩ | ⟨c121, H⟩
 · refine wy_ (nB (bF c121)) (sr_ fun _ hK169 => ?_)
   refine ad_ hK169 ?_
   obtain rfl := os H
   exact rt1 Tryz.f166 rfl rfl hR_ ⟨rfl, HS.b⟩
 refine wn_ (nB c121) (WC.skip (via_ hK108 (WC.seq fun _ hK122 => ?_)))
 refine sr_ fun _ hK123 => ?_
 refine v_ (fa_ underlying118) ?_
 obtain ⟨A124, c125, hc126, le127, HS⟩ := HS.sO 20 rfl at118_23
 obtain ⟨A128, c129, hc130, le131, HS⟩ := HS.sO 21 rfl at118_24
 refine v_ (ls_ (HS.mu 1 rfl) underlying30 (part_cons (at118_22 (HS.aO 22 rfl)).int (part_cons hc126 (part_cons hc130 (part_cons (at118_25 (HS.aO 22 rfl)).int (part_cons (at118_26 (HS.aO 22 rfl)).int part_nil)))))) ?_
 refine v_ (fa_ underlying118) ?_
 obtain ⟨A132, c133, hc134, le135, HS⟩ := HS.sO 23 rfl at118_23
 obtain ⟨A136, c137, hc138, le139, HS⟩ := HS.sO 24 rfl at118_24
 refine v_ (ls_ (HS.mu 0 rfl) underlying30 (part_cons (at118_22 (HS.aO 25 rfl)).int (part_cons hc134 (part_cons hc138 (part_cons (at118_25 (HS.aO 25 rfl)).int (part_cons (at118_26 (HS.aO 25 rfl)).int part_nil)))))) ?_
 obtain ⟨t140, ha141, H⟩ := bind_some H
 refine cs_ HS func77 (laws_eqMatrix.runs k x0.f6 A124 c125 A128 c129 x1.f6 A132 c133 A136 c137 t140 _ (HS.getO 3 rfl) le127 (HS.getO 2 rfl) le131 (HS.getO 1 rfl) le135 (HS.getO 0 rfl) le139 ha141) (fun w142 HS => ?_)
 clear ha141
 refine nt_ ?_
 refine dn_ hK123 ?_
 rcases eti_ H with ⟨c143, H⟩ | ⟨c143, H⟩
 · refine wy_ (nB (bF c143)) (sr_ fun _ hK168 => ?_)
   refine ad_ hK168 ?_
   obtain rfl := os H
   exact rt1 Tryz.f166 rfl rfl hR_ ⟨rfl, HS.b⟩
 refine wn_ (nB c143) (WC.skip (via_ hK122 (WC.seq fun _ hK144 => ?_)))
 refine sr_ fun _ hK145 => ?_
 refine v_ (fa_ underlying118) ?_
 obtain ⟨A146, c147, hc148, le149, HS⟩ := HS.sO 24 rfl at118_28
 obtain ⟨A150, c151, hc152, le153, HS⟩ := HS.sO 25 rfl at118_29
 refine v_ (ls_ (HS.mu 1 rfl) underlying30 (part_cons (at118_27 (HS.aO 26 rfl)).int (part_cons hc148 (part_cons hc152 (part_cons (at118_30 (HS.aO 26 rfl)).int (part_cons (at118_31 (HS.aO 26 rfl)).int part_nil)))))) ?_
 refine v_ (fa_ underlying118) ?_
 obtain ⟨A154, c155, hc156, le157, HS⟩ := HS.sO 27 rfl at118_28
 obtain ⟨A158, c159, hc160, le161, HS⟩ := HS.sO 28 rfl at118_29
 refine v_ (ls_ (HS.mu 0 rfl) underlying30 (part_cons (at118_27 (HS.aO 29 rfl)).int (part_cons hc156 (part_cons hc160 (part_cons (at118_30 (HS.aO 29 rfl)).int (part_cons (at118_31 (HS.aO 29 rfl)).int part_nil)))))) ?_
 obtain ⟨t162, ha163, H⟩ := bind_some H
 refine cs_ HS func77 (laws_eqMatrix.runs k x0.f7 A146 c147 A150 c151 x1.f7 A154 c155 A158 c159 t162 _ (HS.getO 3 rfl) le149 (HS.getO 2 rfl) le153 (HS.getO 1 rfl) le157 (HS.getO 0 rfl) le161 ha163) (fun w164 HS => ?_)
 clear ha163
 refine nt_ ?_
 refine dn_ hK145 ?_
 rcases eti_ H with ⟨c165, H⟩ | ⟨c165, H⟩
 · refine wy_ (nB (bF c165)) (sr_ fun _ hK167 => ?_)
   refine ad_ hK167 ?_
   obtain rfl := os H
   exact rt1 Tryz.f166 rfl rfl hR_ ⟨rfl, HS.b⟩
 refine wn_ (nB c165) (WC.skip (via_ hK144 (sr_ fun _ hK166 => ?_)))
 refine ad_ hK166 ?_
 obtain rfl := os H
 exact rt1 Tryz.f166 rfl rfl hR_ ⟨rfl, HS.b⟩
def laws_eqLayerS.b0 (l0 : List S118) (l1 : List S118) (rec_ : Int → Option (Bool ⊕ Int)) (k18 : Nat) (i11 : Int) : Option (Bool ⊕ Int) := (if i11 < (l0.length : Int) then (if 0 ≤ i11 ∧ i11 < (l0.length : Int) then (if 0 ≤ i11 ∧ i11 < (l1.length : Int) then ((laws_eqLayer.g k18 (l0.getD i11.toNat o118) (l1.getD i11.toNat o118)).bind fun t35 => (if t35 = true then (rec_ (wrap64 (i11 + 1))) else (some (Sum.inl false)))) else none) else none) else (some (Sum.inr i11)))
def laws_eqLayerS.l0 (l0 : List S118) (l1 : List S118) : Nat → Int → Option (Bool ⊕ Int)
 | 0, _ => none
 | k + 1, i11 => laws_eqLayerS.b0 l0 l1 (laws_eqLayerS.l0 l0 l1 k) k i11
def laws_eqLayerS.g (k : Nat) (l0 : List S118) (l1 : List S118) : Option Bool := (if (l0.length : Int) = (l1.length : Int) then ((laws_eqLayerS.l0 l0 l1 k 0).bind (fun oc16 => match oc16 with | .inl r_ => some r_ | .inr i11 => (some true))) else (some false))
theorem laws_eqLayerS.runs (k : Nat) (A0 : Option Addr) (c0 : Nat) (l0 : List S118) (A1 : Option Addr) (c1 : Nat) (l1 : List S118) (r : Bool) (w : World) (hr0 : k118.C w A0 l0.length l0) (hc0 : l0.length ≤ c0) (hr1 : k118.C w A1 l1.length l1) (hc1 : l1.length ≤ c1) (H : laws_eqLayerS.g k l0 l1 = some r) :
   Calls prog 76 #[.slice A0 l0.length c0, .slice A1 l1.length c1] w fun e w' => e = .returned (.bool r) ∧ Below w.heap.size w w' := by
 unfold laws_eqLayerS.g at H
 have HS : St (fun _ => True) w w [] [(cF k118 A0 l0), (cF k118 A1 l1)] [] := St.start (foot_cons (foot_C h118 hr0) (foot_cons (foot_C h118 hr1) foot_nil))
 refine cw_ (n := 27) func76 fun R_ hR_ => ?_
 refine sr_ fun _ hK1 => ?_
 refine ad_ hK1 ?_
 refine WC.seq fun _ hK2 => ?_
 refine sr_ fun _ hK3 => ?_
 refine mv_ ?_
 refine ln_ underlying27 ?_
 refine mv_ ?_
 refine ln_ underlying27 ?_
 refine b_ bin_neq ?_
 refine dn_ hK3 ?_
 rcases eti_ H with ⟨c4, H⟩ | ⟨c4, H⟩
 · refine wy_ (qT c4) (sr_ fun _ hK40 => ?_)
   refine ad_ hK40 ?_
   obtain rfl := os H
   exact rt1 Tryz.f76 rfl rfl hR_ ⟨rfl, HS.b⟩
 refine wn_ (qF c4) (WC.skip (via_ hK2 (WC.seq fun K5 hK5 => ?_)))
 refine sr_ fun _ hK6 => ?_
 refine ad_ hK6 ?_
 refine WC.block ?_
 obtain ⟨G7, hG8, oc9, H, Ho10⟩ := open_G H
 let J12 := fun (i11 : Int) (E_ : Env) (W_ : World) => E_ = [(0, .slice A0 l0.length c0), (1, .slice A1 l1.length c1), (5, vi i11)] ∧ St (fun _ => True) w W_ [] [(cF k118 A0 l0), (cF k118 A1 l1)] []
 have X13 : ∀ E_ W_, (∃ i11, G7 (Sum.inr i11) = some r ∧ J12 i11 E_ W_) → ∀ a, Fits a 27 E_ → K5 a W_ := by
   rintro E_ w14 ⟨i11, H, rfl, HS⟩
   rw [hG8] at H
   (try dsimp only at H)
   refine hK5 _ _ ?_
   refine sr_ fun _ hK15 => ?_
   refine ad_ hK15 ?_
   obtain rfl := os H
   exact rt1 Tryz.f76 rfl rfl hR_ ⟨rfl, HS.b⟩
 clear hK5
 refine WC.loop (fun k_ E_ W_ => ∃ i11, (∃ o_, laws_eqLayerS.l0 l0 l1 k_ i11 = some o_ ∧ G7 o_ = some r) ∧ J12 i11 E_ W_) k ⟨0, ⟨_, H, Ho10⟩, rfl, HS⟩ (sb rfl) ?_
 rintro k_ E_ w17 ⟨i11, ⟨oc9, H, Ho10⟩, rfl, HS⟩
 rcases k_ with _ | k18
 · exact no_ H
 replace H : laws_eqLayerS.b0 l0 l1 (laws_eqLayerS.l0 l0 l1 k18) k18 i11 = some oc9 := H
 unfold laws_eqLayerS.b0 at H
 refine WC.seq fun _ hK19 => ?_
 refine sr_ fun _ hK20 => ?_
 refine mv_ ?_
 refine mv_ ?_
 refine ln_ underlying27 ?_
 refine b_ bin_lss ?_
 refine dn_ hK20 ?_
 rcases eti_ H with ⟨c21, H⟩ | ⟨c21, H⟩
 · refine wn_ (dF c21) (WC.exit ?_)
   obtain rfl := os H
   exact wv_ iq X13 ⟨i11, Ho10, rfl, HS⟩
 refine wy_ (dT c21) (WC.skip (via_ hK19 (WC.seq fun _ hK22 => ?_)))
 refine WC.block (WC.seq fun _ hK23 => ?_)
 refine WC.drawS HS [] rfl rfl (fun w24 HS => ?_)
 have HB := Below.refl w24.heap.size w24
 have HSW := HS
 refine dm_ 0 ?_
 refine dm_ 1 ?_
 obtain ⟨⟨q25, q26⟩, H⟩ := if_some H
 obtain ⟨ad27, rfl⟩ := C_open (HS.getO 0 rfl) (lenpos q25 q26)
 refine di_ 2 underlying27 32 q25 q26 ?_
 refine dm_ 4 ?_
 refine dm_ 5 ?_
 obtain ⟨⟨q28, q29⟩, H⟩ := if_some H
 obtain ⟨ad30, rfl⟩ := C_open (HS.getO 1 rfl) (lenpos q28 q29)
 refine di_ 6 underlying27 32 q28 q29 ?_
 obtain ⟨e31, el32, HS⟩ := HS.elO 0 rfl (by decide) o118 i11 q25 q26
 replace HSW := HS
 replace HS := HS.deriveO (p := (kF k118 (l0.getD i11.toNat o118) e31)) (fun W_ hO_ hN_ => hO_.1.1)
 refine dt_ 3 (Below.refl _ _) (fun w_ hw_ => Run.loadS (cs := e31) rfl rfl underlying118 rfl (by rw [el32]; kernel_rfl) ((HS.below hw_).getO 1 rfl).2) ?_
 obtain ⟨e33, el34, HS⟩ := HS.elO 3 rfl (by decide) o118 i11 q28 q29
 replace HSW := HS
 replace HS := HS.deriveO (p := (kF k118 (l1.getD i11.toNat o118) e33)) (fun W_ hO_ hN_ => hO_.1.1)
 refine dt_ 7 (Below.refl _ _) (fun w_ hw_ => Run.loadS (cs := e33) rfl rfl underlying118 rfl (by rw [el34]; kernel_rfl) ((HS.below hw_).getO 1 rfl).2) ?_
 obtain ⟨t35, ha36, H⟩ := bind_some H
 refine dcs_ HS HB 8 (w_none rfl) func166 (laws_eqLayer.runs k18 e31 (l0.getD i11.toNat o118) e33 (l1.getD i11.toNat o118) t35 _ (HS.getO 2 rfl) (HS.getO 0 rfl) ha36) (fun w37 HS HB => ?_)
 clear ha36
 refine dp_ 9 (fun _ => Run.not rfl rfl) ?_
 refine dd_ ?_
 clear HB HSW
 refine via_ hK23 ?_
 rcases ite_ H with ⟨c38, H⟩ | ⟨c38, H⟩
 · refine wn_ (nB c38) (WC.skip (via_ hK22 (rg_ (mv_ ?_))))
   refine b_ bin_add64 ?_
   refine as_ ?_
   refine WL.done ?_
   exact wr_ k18 iq ⟨(wrap64 (i11 + 1)), ⟨_, H, Ho10⟩, rfl, (St.pk HS [4, 5] [] rfl rfl)⟩
 refine wy_ (nB (bF c38)) (sr_ fun _ hK39 => ?_)
 refine ad_ hK39 ?_
 refine WC.ret ?_
 obtain rfl := os H
 rw [hG8] at Ho10
 replace H : some _ = some _ := Ho10
 obtain rfl := os H
 exact fin1 Tryz.f76 rfl rfl hR_ ⟨rfl, HS.b⟩
def laws_eqModel.g (k : Nat) (x0 : S34) (x1 : S34) : Option Bool := (if x0.f0 = x1.f0 then (if x0.f1 = x1.f1 then (if x0.f2 = x1.f2 then ((laws_eqMergeS.g k x0.f3 x1.f3).bind fun t25 => (if t25 = true then ((laws_eqIntSS.g k x0.f4 x1.f4).bind fun t39 => (if t39 = true then ((laws_eqLayerS.g k x0.f5 x1.f5).bind fun t53 => (if t53 = true then ((laws_eqIntS.g k x0.f6 x1.f6).bind fun t67 => (if t67 = true then ((laws_eqMatrix.g k x0.f7 x1.f7).bind fun t89 => (if t89 = true then ((laws_eqTurns.g k x0.f8 x1.f8).bind fun t111 => (if t111 = true then (some true) else (some false))) else (some false))) else (some false))) else (some false))) else (some false))) else (some false))) else (some false)) else (some false)) else (some false))
theorem laws_eqModel.runs (k : Nat) (cs0 : List Value) (x0 : S34) (cs1 : List Value) (x1 : S34) (r : Bool) (w : World) (hk0 : k34.K w x0 cs0) (hk1 : k34.K w x1 cs1) (H : laws_eqModel.g k x0 x1 = some r) :
   Calls prog 15 #[.agg cs0.toArray, .agg cs1.toArray] w fun e w' => e = .returned (.bool r) ∧ Below w.heap.size w w' := by
 have el0 : cs0.length = 14 := k34.K_len hk0
 have el1 : cs1.length = 14 := k34.K_len hk1
 unfold laws_eqModel.g at H
 have HS : St (fun _ => True) w w [] [(kF k34 x0 cs0), (kF k34 x1 cs1)] [] := St.start (foot_cons (foot_K h34 hk0) (foot_cons (foot_K h34 hk1) foot_nil))
 refine cw_ (n := 56) func15 fun R_ hR_ => ?_
 refine sr_ fun _ hK1 => ?_
 refine bo_ HS (fun b2 w3 hb2 HS => ?_)
 refine bo_ HS (fun b4 w5 hb4 HS => ?_)
 refine ad_ hK1 ?_
 refine WC.seq fun _ hK6 => ?_
 refine sr_ fun _ hK7 => ?_
 refine v_ (fa_ underlying34) ?_
 refine v_ (lb_ (HS.mu 1 rfl) underlying3 (at34_0 (HS.aO 0 rfl)).int) ?_
 refine v_ (fa_ underlying34) ?_
 refine v_ (lb_ (HS.mu 0 rfl) underlying3 (at34_0 (HS.aO 1 rfl)).int) ?_
 refine b_ bin_neq ?_
 refine dn_ hK7 ?_
 rcases eti_ H with ⟨c8, H⟩ | ⟨c8, H⟩
 · refine wy_ (qT c8) (sr_ fun _ hK124 => ?_)
   refine ad_ hK124 ?_
   obtain rfl := os H
   exact rt1 Tryz.f15 rfl rfl hR_ ⟨rfl, HS.b⟩
 refine wn_ (qF c8) (WC.skip (via_ hK6 (WC.seq fun _ hK9 => ?_)))
 refine sr_ fun _ hK10 => ?_
 refine v_ (fa_ underlying34) ?_
 refine v_ (lb_ (HS.mu 1 rfl) underlying3 (at34_1 (HS.aO 0 rfl)).int) ?_
 refine v_ (fa_ underlying34) ?_
 refine v_ (lb_ (HS.mu 0 rfl) underlying3 (at34_1 (HS.aO 1 rfl)).int) ?_
 refine b_ bin_neq ?_
 refine dn_ hK10 ?_
 rcases eti_ H with ⟨c11, H⟩ | ⟨c11, H⟩
 · refine wy_ (qT c11) (sr_ fun _ hK123 => ?_)
   refine ad_ hK123 ?_
   obtain rfl := os H
   exact rt1 Tryz.f15 rfl rfl hR_ ⟨rfl, HS.b⟩
 refine wn_ (qF c11) (WC.skip (via_ hK9 (WC.seq fun _ hK12 => ?_)))
 refine sr_ fun _ hK13 => ?_
 refine v_ (fa_ underlying34) ?_
 refine v_ (lb_ (HS.mu 1 rfl) underlying3 (at34_2 (HS.aO 0 rfl)).int) ?_
 refine v_ (fa_ underlying34) ?_
 refine v_ (lb_ (HS.mu 0 rfl) underlying3 (at34_2 (HS.aO 1 rfl)).int) ?_
 refine b_ bin_neq ?_
 refine dn_ hK13 ?_
 rcases eti_ H with ⟨c14, H⟩ | ⟨c14, H⟩
 · refine wy_ (qT c14) (sr_ fun _ hK122 => ?_)
   refine ad_ hK122 ?_
   obtain rfl := os H
   exact rt1 Tryz.f15 rfl rfl hR_ ⟨rfl, HS.b⟩
 refine wn_ (qF c14) (WC.skip (via_ hK12 (WC.seq fun _ hK15 => ?_)))
 refine sr_ fun _ hK16 => ?_
 refine v_ (fa_ underlying34) ?_
 obtain ⟨A17, c18, hc19, le20, HS⟩ := HS.sO 0 rfl at34_3
 refine v_ (lb_ (HS.mu 1 rfl) underlying25 hc19) ?_
 refine v_ (fa_ underlying34) ?_
 obtain ⟨A21, c22, hc23, le24, HS⟩ := HS.sO 2 rfl at34_3
 refine v_ (lb_ (HS.mu 0 rfl) underlying25 hc23) ?_
 obtain ⟨t25, ha26, H⟩ := bind_some H
 refine cs_ HS func74 (laws_eqMergeS.runs k A17 c18 x0.f3 A21 c22 x1.f3 t25 _ (HS.getO 1 rfl) le20 (HS.getO 0 rfl) le24 ha26) (fun w27 HS => ?_)
 clear ha26
 refine nt_ ?_
 refine dn_ hK16 ?_
 rcases eti_ H with ⟨c28, H⟩ | ⟨c28, H⟩
 · refine wy_ (nB (bF c28)) (sr_ fun _ hK121 => ?_)
   refine ad_ hK121 ?_
   obtain rfl := os H
   exact rt1 Tryz.f15 rfl rfl hR_ ⟨rfl, HS.b⟩
 refine wn_ (nB c28) (WC.skip (via_ hK15 (WC.seq fun _ hK29 => ?_)))
 refine sr_ fun _ hK30 => ?_
 refine v_ (fa_ underlying34) ?_
 obtain ⟨A31, c32, hc33, le34, HS⟩ := HS.sO 2 rfl at34_4
 refine v_ (lb_ (HS.mu 1 rfl) underlying26 hc33) ?_
 refine v_ (fa_ underlying34) ?_
 obtain ⟨A35, c36, hc37, le38, HS⟩ := HS.sO 4 rfl at34_4
 refine v_ (lb_ (HS.mu 0 rfl) underlying26 hc37) ?_
 obtain ⟨t39, ha40, H⟩ := bind_some H
 refine cs_ HS func75 (laws_eqIntSS.runs k A31 c32 x0.f4 A35 c36 x1.f4 t39 _ (HS.getO 1 rfl) le34 (HS.getO 0 rfl) le38 ha40) (fun w41 HS => ?_)
 clear ha40
 refine nt_ ?_
 refine dn_ hK30 ?_
 rcases eti_ H with ⟨c42, H⟩ | ⟨c42, H⟩
 · refine wy_ (nB (bF c42)) (sr_ fun _ hK120 => ?_)
   refine ad_ hK120 ?_
   obtain rfl := os H
   exact rt1 Tryz.f15 rfl rfl hR_ ⟨rfl, HS.b⟩
 refine wn_ (nB c42) (WC.skip (via_ hK29 (WC.seq fun _ hK43 => ?_)))
 refine sr_ fun _ hK44 => ?_
 refine v_ (fa_ underlying34) ?_
 obtain ⟨A45, c46, hc47, le48, HS⟩ := HS.sO 4 rfl at34_5
 refine v_ (lb_ (HS.mu 1 rfl) underlying27 hc47) ?_
 refine v_ (fa_ underlying34) ?_
 obtain ⟨A49, c50, hc51, le52, HS⟩ := HS.sO 6 rfl at34_5
 refine v_ (lb_ (HS.mu 0 rfl) underlying27 hc51) ?_
 obtain ⟨t53, ha54, H⟩ := bind_some H
 refine cs_ HS func76 (laws_eqLayerS.runs k A45 c46 x0.f5 A49 c50 x1.f5 t53 _ (HS.getO 1 rfl) le48 (HS.getO 0 rfl) le52 ha54) (fun w55 HS => ?_)
 clear ha54
 refine nt_ ?_
 refine dn_ hK44 ?_
 rcases eti_ H with ⟨c56, H⟩ | ⟨c56, H⟩
 · refine wy_ (nB (bF c56)) (sr_ fun _ hK119 => ?_)
   refine ad_ hK119 ?_
   obtain rfl := os H
   exact rt1 Tryz.f15 rfl rfl hR_ ⟨rfl, HS.b⟩
 refine wn_ (nB c56) (WC.skip (via_ hK43 (WC.seq fun _ hK57 => ?_)))
 refine sr_ fun _ hK58 => ?_
 refine v_ (fa_ underlying34) ?_
 obtain ⟨A59, c60, hc61, le62, HS⟩ := HS.sO 6 rfl at34_6
 refine v_ (lb_ (HS.mu 1 rfl) underlying28 hc61) ?_
 refine v_ (fa_ underlying34) ?_
 obtain ⟨A63, c64, hc65, le66, HS⟩ := HS.sO 8 rfl at34_6
 refine v_ (lb_ (HS.mu 0 rfl) underlying28 hc65) ?_
 obtain ⟨t67, ha68, H⟩ := bind_some H
 refine cs_ HS func24 (laws_eqIntS.runs k A59 c60 x0.f6 A63 c64 x1.f6 t67 _ (HS.getO 1 rfl) le62 (HS.getO 0 rfl) le66 ha68) (fun w69 HS => ?_)
 clear ha68
 refine nt_ ?_
 refine dn_ hK58 ?_
 rcases eti_ H with ⟨c70, H⟩ | ⟨c70, H⟩
 · refine wy_ (nB (bF c70)) (sr_ fun _ hK118 => ?_)
   refine ad_ hK118 ?_
   obtain rfl := os H
   exact rt1 Tryz.f15 rfl rfl hR_ ⟨rfl, HS.b⟩
 refine wn_ (nB c70) (WC.skip (via_ hK57 (WC.seq fun _ hK71 => ?_)))
 refine sr_ fun _ hK72 => ?_
 refine v_ (fa_ underlying34) ?_
 obtain ⟨A73, c74, hc75, le76, HS⟩ := HS.sO 8 rfl at34_8
 obtain ⟨A77, c78, hc79, le80, HS⟩ := HS.sO 9 rfl at34_9
 refine v_ (ls_ (HS.mu 1 rfl) underlying30 (part_cons (at34_7 (HS.aO 10 rfl)).int (part_cons hc75 (part_cons hc79 (part_cons (at34_10 (HS.aO 10 rfl)).int (part_cons (at34_11 (HS.aO 10 rfl)).int part_nil)))))) ?_
 refine v_ (fa_ underlying34) ?_
 obtain ⟨A81, c82, hc83, le84, HS⟩ := HS.sO 11 rfl at34_8
 obtain ⟨A85, c86, hc87, le88, HS⟩ := HS.sO 12 rfl at34_9
 refine v_ (ls_ (HS.mu 0 rfl) underlying30 (part_cons (at34_7 (HS.aO 13 rfl)).int (part_cons hc83 (part_cons hc87 (part_cons (at34_10 (HS.aO 13 rfl)).int (part_cons (at34_11 (HS.aO 13 rfl)).int part_nil)))))) ?_
 obtain ⟨t89, ha90, H⟩ := bind_some H
 refine cs_ HS func77 (laws_eqMatrix.runs k x0.f7 A73 c74 A77 c78 x1.f7 A81 c82 A85 c86 t89 _ (HS.getO 3 rfl) le76 (HS.getO 2 rfl) le80 (HS.getO 1 rfl) le84 (HS.getO 0 rfl) le88 ha90) (fun w91 HS => ?_)
 clear ha90
 refine nt_ ?_
 refine dn_ hK72 ?_
 rcases eti_ H with ⟨c92, H⟩ | ⟨c92, H⟩
 · refine wy_ (nB (bF c92)) (sr_ fun _ hK117 => ?_)
   refine ad_ hK117 ?_
   obtain rfl := os H
   exact rt1 Tryz.f15 rfl rfl hR_ ⟨rfl, HS.b⟩
 refine wn_ (nB c92) (WC.skip (via_ hK71 (WC.seq fun _ hK93 => ?_)))
 refine sr_ fun _ hK94 => ?_
 refine v_ (fa_ underlying34) ?_
 obtain ⟨A95, c96, hc97, le98, HS⟩ := HS.sO 12 rfl at34_12
 obtain ⟨A99, c100, hc101, le102, HS⟩ := HS.sO 13 rfl at34_13
 refine v_ (ls_ (HS.mu 1 rfl) underlying32 (part_cons hc97 (part_cons hc101 part_nil))) ?_
 refine v_ (fa_ underlying34) ?_
 obtain ⟨A103, c104, hc105, le106, HS⟩ := HS.sO 15 rfl at34_12
 obtain ⟨A107, c108, hc109, le110, HS⟩ := HS.sO 16 rfl at34_13
 refine v_ (ls_ (HS.mu 0 rfl) underlying32 (part_cons hc105 (part_cons hc109 part_nil))) ?_
 obtain ⟨t111, ha112, H⟩ := bind_some H
 refine cs_ HS func78 (laws_eqTurns.runs k x0.f8 A95 c96 A99 c100 x1.f8 A103 c104 A107 c108 t111 _ (HS.getO 3 rfl) le98 (HS.getO 2 rfl) le102 (HS.getO 1 rfl) le106 (HS.getO 0 rfl) le110 ha112) (fun w113 HS => ?_)
 clear ha112
 refine nt_ ?_
 refine dn_ hK94 ?_
 rcases eti_ H with ⟨c114, H⟩ | ⟨c114, H⟩
 · refine wy_ (nB (bF c114)) (sr_ fun _ hK116 => ?_)
   refine ad_ hK116 ?_
   obtain rfl := os H
   exact rt1 Tryz.f15 rfl rfl hR_ ⟨rfl, HS.b⟩
 refine wn_ (nB c114) (WC.skip (via_ hK93 (sr_ fun _ hK115 => ?_)))
 refine ad_ hK115 ?_
 obtain rfl := os H
 exact rt1 Tryz.f15 rfl rfl hR_ ⟨rfl, HS.b⟩
def laws_eqPart.g (k : Nat) (x0 : S67) (x1 : S67) : Option Bool := (if x0.f0 = x1.f0 then ((laws_eqIntS.g k x0.f1 x1.f1).bind fun t11 => (if t11 = true then (some true) else (some false))) else (some false))
theorem laws_eqPart.runs (k : Nat) (x0 : S67) (A0_1 : Option Addr) (c0_1 : Nat) (x1 : S67) (A1_1 : Option Addr) (c1_1 : Nat) (r : Bool) (w : World) (hr0_1 : kI.C w A0_1 x0.f1.length x0.f1) (hc0_1 : x0.f1.length ≤ c0_1) (hr1_1 : kI.C w A1_1 x1.f1.length x1.f1) (hc1_1 : x1.f1.length ≤ c1_1) (H : laws_eqPart.g k x0 x1 = some r) :
   Calls prog 105 #[.agg #[vi x0.f0, .slice A0_1 x0.f1.length c0_1], .agg #[vi x1.f0, .slice A1_1 x1.f1.length c1_1]] w fun e w' => e = .returned (.bool r) ∧ Below w.heap.size w w' := by
 unfold laws_eqPart.g at H
 have HS : St (fun _ => True) w w [] [(cF kI A0_1 x0.f1), (cF kI A1_1 x1.f1)] [] := St.start (foot_cons (foot_C (Kd.heap_int _) hr0_1) (foot_cons (foot_C (Kd.heap_int _) hr1_1) foot_nil))
 refine cw_ (n := 16) func105 fun R_ hR_ => ?_
 refine sr_ fun _ hK1 => ?_
 refine bo_ HS (fun b2 w3 hb2 HS => ?_)
 refine bo_ HS (fun b4 w5 hb4 HS => ?_)
 refine ad_ hK1 ?_
 refine WC.seq fun _ hK6 => ?_
 refine sr_ fun _ hK7 => ?_
 refine v_ (fa_ underlying67) ?_
 refine v_ (lb_ (HS.mu 1 rfl) underlying3 rfl) ?_
 refine v_ (fa_ underlying67) ?_
 refine v_ (lb_ (HS.mu 0 rfl) underlying3 rfl) ?_
 refine b_ bin_neq ?_
 refine dn_ hK7 ?_
 rcases eti_ H with ⟨c8, H⟩ | ⟨c8, H⟩
 · refine wy_ (qT c8) (sr_ fun _ hK17 => ?_)
   refine ad_ hK17 ?_
   obtain rfl := os H
   exact rt1 Tryz.f105 rfl rfl hR_ ⟨rfl, HS.b⟩
 refine wn_ (qF c8) (WC.skip (via_ hK6 (WC.seq fun _ hK9 => ?_)))
 refine sr_ fun _ hK10 => ?_
 refine v_ (fa_ underlying67) ?_
 refine v_ (lb_ (HS.mu 1 rfl) underlying28 rfl) ?_
 refine v_ (fa_ underlying67) ?_
 refine v_ (lb_ (HS.mu 0 rfl) underlying28 rfl) ?_
 obtain ⟨t11, ha12, H⟩ := bind_some H
 refine cs_ HS func24 (laws_eqIntS.runs k A0_1 c0_1 x0.f1 A1_1 c1_1 x1.f1 t11 _ (HS.getO 0 rfl) hc0_1 (HS.getO 1 rfl) hc1_1 ha12) (fun w13 HS => ?_)
 clear ha12
 refine nt_ ?_
 refine dn_ hK10 ?_
 rcases eti_ H with ⟨c14, H⟩ | ⟨c14, H⟩
 · refine wy_ (nB (bF c14)) (sr_ fun _ hK16 => ?_)
   refine ad_ hK16 ?_
   obtain rfl := os H
   exact rt1 Tryz.f105 rfl rfl hR_ ⟨rfl, HS.b⟩
 refine wn_ (nB c14) (WC.skip (via_ hK9 (sr_ fun _ hK15 => ?_)))
 refine ad_ hK15 ?_
 obtain rfl := os H
 exact rt1 Tryz.f105 rfl rfl hR_ ⟨rfl, HS.b⟩
def laws_eqPartS.b0 (l0 : List S67) (l1 : List S67) (rec_ : Int → Option (Bool ⊕ Int)) (k18 : Nat) (i11 : Int) : Option (Bool ⊕ Int) := (if i11 < (l0.length : Int) then (if 0 ≤ i11 ∧ i11 < (l0.length : Int) then (if 0 ≤ i11 ∧ i11 < (l1.length : Int) then ((laws_eqPart.g k18 (l0.getD i11.toNat o67) (l1.getD i11.toNat o67)).bind fun t43 => (if t43 = true then (rec_ (wrap64 (i11 + 1))) else (some (Sum.inl false)))) else none) else none) else (some (Sum.inr i11)))
def laws_eqPartS.l0 (l0 : List S67) (l1 : List S67) : Nat → Int → Option (Bool ⊕ Int)
 | 0, _ => none
 | k + 1, i11 => laws_eqPartS.b0 l0 l1 (laws_eqPartS.l0 l0 l1 k) k i11
def laws_eqPartS.g (k : Nat) (l0 : List S67) (l1 : List S67) : Option Bool := (if (l0.length : Int) = (l1.length : Int) then ((laws_eqPartS.l0 l0 l1 k 0).bind (fun oc16 => match oc16 with | .inl r_ => some r_ | .inr i11 => (some true))) else (some false))
theorem laws_eqPartS.runs (k : Nat) (A0 : Option Addr) (c0 : Nat) (l0 : List S67) (A1 : Option Addr) (c1 : Nat) (l1 : List S67) (r : Bool) (w : World) (hr0 : k67.C w A0 l0.length l0) (hc0 : l0.length ≤ c0) (hr1 : k67.C w A1 l1.length l1) (hc1 : l1.length ≤ c1) (H : laws_eqPartS.g k l0 l1 = some r) :
   Calls prog 23 #[.slice A0 l0.length c0, .slice A1 l1.length c1] w fun e w' => e = .returned (.bool r) ∧ Below w.heap.size w w' := by
 unfold laws_eqPartS.g at H
 have HS : St (fun _ => True) w w [] [(cF k67 A0 l0), (cF k67 A1 l1)] [] := St.start (foot_cons (foot_C h67 hr0) (foot_cons (foot_C h67 hr1) foot_nil))
 refine cw_ (n := 27) func23 fun R_ hR_ => ?_
 refine sr_ fun _ hK1 => ?_
 refine ad_ hK1 ?_
 refine WC.seq fun _ hK2 => ?_
 refine sr_ fun _ hK3 => ?_
 refine mv_ ?_
 refine ln_ underlying49 ?_
 refine mv_ ?_
 refine ln_ underlying49 ?_
 refine b_ bin_neq ?_
 refine dn_ hK3 ?_
 rcases eti_ H with ⟨c4, H⟩ | ⟨c4, H⟩
 · refine wy_ (qT c4) (sr_ fun _ hK48 => ?_)
   refine ad_ hK48 ?_
   obtain rfl := os H
   exact rt1 Tryz.f23 rfl rfl hR_ ⟨rfl, HS.b⟩
 refine wn_ (qF c4) (WC.skip (via_ hK2 (WC.seq fun K5 hK5 => ?_)))
 refine sr_ fun _ hK6 => ?_
 refine ad_ hK6 ?_
 refine WC.block ?_
 obtain ⟨G7, hG8, oc9, H, Ho10⟩ := open_G H
 let J12 := fun (i11 : Int) (E_ : Env) (W_ : World) => E_ = [(0, .slice A0 l0.length c0), (1, .slice A1 l1.length c1), (5, vi i11)] ∧ St (fun _ => True) w W_ [] [(cF k67 A0 l0), (cF k67 A1 l1)] []
 have X13 : ∀ E_ W_, (∃ i11, G7 (Sum.inr i11) = some r ∧ J12 i11 E_ W_) → ∀ a, Fits a 27 E_ → K5 a W_ := by
   rintro E_ w14 ⟨i11, H, rfl, HS⟩
   rw [hG8] at H
   (try dsimp only at H)
   refine hK5 _ _ ?_
   refine sr_ fun _ hK15 => ?_
   refine ad_ hK15 ?_
   obtain rfl := os H
   exact rt1 Tryz.f23 rfl rfl hR_ ⟨rfl, HS.b⟩
 clear hK5
 refine WC.loop (fun k_ E_ W_ => ∃ i11, (∃ o_, laws_eqPartS.l0 l0 l1 k_ i11 = some o_ ∧ G7 o_ = some r) ∧ J12 i11 E_ W_) k ⟨0, ⟨_, H, Ho10⟩, rfl, HS⟩ (sb rfl) ?_
 rintro k_ E_ w17 ⟨i11, ⟨oc9, H, Ho10⟩, rfl, HS⟩
 rcases k_ with _ | k18
 · exact no_ H
 replace H : laws_eqPartS.b0 l0 l1 (laws_eqPartS.l0 l0 l1 k18) k18 i11 = some oc9 := H
 unfold laws_eqPartS.b0 at H
 refine WC.seq fun _ hK19 => ?_
 refine sr_ fun _ hK20 => ?_
 refine mv_ ?_
 refine mv_ ?_
 refine ln_ underlying49 ?_
 refine b_ bin_lss ?_
 refine dn_ hK20 ?_
 rcases eti_ H with ⟨c21, H⟩ | ⟨c21, H⟩
 · refine wn_ (dF c21) (WC.exit ?_)
   obtain rfl := os H
   exact wv_ iq X13 ⟨i11, Ho10, rfl, HS⟩
 refine wy_ (dT c21) (WC.skip (via_ hK19 (WC.seq fun _ hK22 => ?_)))
 refine WC.block (WC.seq fun _ hK23 => ?_)
 refine WC.drawS HS [] rfl rfl (fun w24 HS => ?_)
 have HB := Below.refl w24.heap.size w24
 have HSW := HS
 refine dm_ 0 ?_
 refine dm_ 1 ?_
 obtain ⟨⟨q25, q26⟩, H⟩ := if_some H
 obtain ⟨ad27, rfl⟩ := C_open (HS.getO 0 rfl) (lenpos q25 q26)
 refine di_ 2 underlying49 2 q25 q26 ?_
 refine dm_ 4 ?_
 refine dm_ 5 ?_
 obtain ⟨⟨q28, q29⟩, H⟩ := if_some H
 obtain ⟨ad30, rfl⟩ := C_open (HS.getO 1 rfl) (lenpos q28 q29)
 refine di_ 6 underlying49 2 q28 q29 ?_
 obtain ⟨e31, el32, HS⟩ := HS.elO 0 rfl (by decide) o67 i11 q25 q26
 replace HSW := HS
 obtain ⟨A33, c34, hc35, le36, HS⟩ := HS.eO 0 rfl at67_1
 refine dt_ 3 (Below.refl _ _) (fun w_ hw_ => Run.loadS (cs := [vi ((l0.getD i11.toNat o67).f0), .slice A33 ((l0.getD i11.toNat o67).f1.length) c34]) rfl rfl underlying67 rfl (by kernel_rfl) (cells_part ((HS.below hw_).getO 1 rfl).2 (part_cons (at67_0 (AtK.whole ((HS.below hw_).getO 1 rfl).1)).int (part_cons hc35 part_nil)))) ?_
 obtain ⟨e37, el38, HS⟩ := HS.elO 3 rfl (by decide) o67 i11 q28 q29
 replace HSW := HS
 obtain ⟨A39, c40, hc41, le42, HS⟩ := HS.eO 0 rfl at67_1
 refine dt_ 7 (Below.refl _ _) (fun w_ hw_ => Run.loadS (cs := [vi ((l1.getD i11.toNat o67).f0), .slice A39 ((l1.getD i11.toNat o67).f1.length) c40]) rfl rfl underlying67 rfl (by kernel_rfl) (cells_part ((HS.below hw_).getO 1 rfl).2 (part_cons (at67_0 (AtK.whole ((HS.below hw_).getO 1 rfl).1)).int (part_cons hc41 part_nil)))) ?_
 obtain ⟨t43, ha44, H⟩ := bind_some H
 refine dcs_ HS HB 8 (w_none rfl) func105 (laws_eqPart.runs k18 (l0.getD i11.toNat o67) A33 c34 (l1.getD i11.toNat o67) A39 c40 t43 _ (HS.getO 2 rfl) le36 (HS.getO 0 rfl) le42 ha44) (fun w45 HS HB => ?_)
 clear ha44
 refine dp_ 9 (fun _ => Run.not rfl rfl) ?_
 refine dd_ ?_
 clear HB HSW
 refine via_ hK23 ?_
 rcases ite_ H with ⟨c46, H⟩ | ⟨c46, H⟩
 · refine wn_ (nB c46) (WC.skip (via_ hK22 (rg_ (mv_ ?_))))
   refine b_ bin_add64 ?_
   refine as_ ?_
   refine WL.done ?_
   exact wr_ k18 iq ⟨(wrap64 (i11 + 1)), ⟨_, H, Ho10⟩, rfl, (St.pk HS [4, 5] [] rfl rfl)⟩
 refine wy_ (nB (bF c46)) (sr_ fun _ hK47 => ?_)
 refine ad_ hK47 ?_
 refine WC.ret ?_
 obtain rfl := os H
 rw [hG8] at Ho10
 replace H : some _ = some _ := Ho10
 obtain rfl := os H
 exact fin1 Tryz.f23 rfl rfl hR_ ⟨rfl, HS.b⟩
def spec_Root.b0 (a0 : Int) (rec_ : Int → Int → Option (Int × Int)) (k23 : Nat) (i15 : Int) (i16 : Int) : Option (Int × Int) := (if (wrap64 (i16 - i15)) > 1 then (if (wrap64 ((wrap64 (Int.tdiv (wrap64 (i15 + i16)) 2)) * (wrap64 (Int.tdiv (wrap64 (i15 + i16)) 2)))) ≤ a0 then (rec_ (wrap64 (Int.tdiv (wrap64 (i15 + i16)) 2)) i16) else (rec_ i15 (wrap64 (Int.tdiv (wrap64 (i15 + i16)) 2)))) else (some (i15, i16)))
def spec_Root.l0 (a0 : Int) : Nat → Int → Int → Option (Int × Int)
 | 0, _, _ => none
 | k + 1, i15, i16 => spec_Root.b0 a0 (spec_Root.l0 a0 k) k i15 i16
def spec_Root.g (k : Nat) (a0 : Int) : Option Int := ((spec_l01In.f a0 0 1000000000000).bind fun t4 => (if t4 = true then ((spec_Root.l0 a0 k 0 1000001).bind (fun oc21 => (some oc21.1))) else (some 0)))
theorem spec_Root.runs (k : Nat) (a0 : Int) (r : Int) (w : World) (H : spec_Root.g k a0 = some r) :
   Calls prog 235 #[vi a0] w fun e w' => e = .returned (vi r) ∧ Below w.heap.size w w' := by
 unfold spec_Root.g at H
 have HS : St (fun _ => True) w w [] [] [] := St.start foot_nil
 refine cw_ (n := 25) func235 fun R_ hR_ => ?_
 refine sr_ fun _ hK1 => ?_
 refine ad_ hK1 ?_
 refine WC.seq fun _ hK2 => ?_
 refine sr_ fun _ hK3 => ?_
 refine mv_ ?_
 obtain ⟨t4, ha5, H⟩ := bind_some H
 refine cs0_ HS func96 (spec_l01In.calls a0 0 1000000000000 t4 _ ha5) (fun w6 HS => ?_)
 clear ha5
 refine nt_ ?_
 refine dn_ hK3 ?_
 rcases eti_ H with ⟨c7, H⟩ | ⟨c7, H⟩
 · refine wy_ (nB (bF c7)) (sr_ fun _ hK30 => ?_)
   refine ad_ hK30 ?_
   obtain rfl := os H
   exact rt1 Tryz.f235 rfl rfl hR_ ⟨rfl, HS.b⟩
 refine wn_ (nB c7) (WC.skip (via_ hK2 (sr_ fun _ hK8 => ?_)))
 refine ad_ hK8 ?_
 refine sr_ fun _ hK9 => ?_
 refine ad_ hK9 ?_
 refine WC.seq fun K10 hK10 => ?_
 refine WC.block ?_
 obtain ⟨G11, hG12, oc13, H, Ho14⟩ := open_G H
 let J17 := fun (i15 : Int) (i16 : Int) (E_ : Env) (W_ : World) => E_ = [(0, vi a0), (3, vi i15), (4, vi i16)] ∧ St (fun _ => True) w W_ [] [] []
 have X18 : ∀ E_ W_, (∃ i15 i16, G11 (i15, i16) = some r ∧ J17 i15 i16 E_ W_) → ∀ a, Fits a 25 E_ → K10 a W_ := by
   rintro E_ w19 ⟨i15, i16, H, rfl, HS⟩
   rw [hG12] at H
   (try dsimp only at H)
   refine hK10 _ _ ?_
   refine sr_ fun _ hK20 => ?_
   refine mv_ ?_
   refine ad_ hK20 ?_
   obtain rfl := os H
   exact rt1 Tryz.f235 rfl rfl hR_ ⟨rfl, HS.b⟩
 clear hK10
 refine WC.loop (fun k_ E_ W_ => ∃ i15 i16, (∃ o_, spec_Root.l0 a0 k_ i15 i16 = some o_ ∧ G11 o_ = some r) ∧ J17 i15 i16 E_ W_) k ⟨0, 1000001, ⟨_, H, Ho14⟩, rfl, HS⟩ (sb rfl) ?_
 rintro k_ E_ w22 ⟨i15, i16, ⟨oc13, H, Ho14⟩, rfl, HS⟩
 rcases k_ with _ | k23
 · exact no_ H
 replace H : spec_Root.b0 a0 (spec_Root.l0 a0 k23) k23 i15 i16 = some oc13 := H
 unfold spec_Root.b0 at H
 refine WC.seq fun _ hK24 => ?_
 refine sr_ fun _ hK25 => ?_
 refine mv_ ?_
 refine mv_ ?_
 refine b_ bin_sub64 ?_
 refine b_ bin_gtr ?_
 refine dn_ hK25 ?_
 rcases eti_ H with ⟨c26, H⟩ | ⟨c26, H⟩
 · refine wn_ (dF c26) (WC.exit ?_)
   obtain rfl := os H
   exact wv_ iq X18 ⟨i15, i16, Ho14, rfl, HS⟩
 refine wy_ (dT c26) (WC.skip (via_ hK24 (WC.block (sr_ fun _ hK27 => ?_))))
 refine mv_ ?_
 refine mv_ ?_
 refine b_ bin_add64 ?_
 refine v_ (Run.bin rfl rfl rfl (bin_quo64 (show (2 : Int) ≠ 0 by decide))) ?_
 refine ad_ hK27 ?_
 refine sr_ fun _ hK28 => ?_
 refine mv_ ?_
 refine mv_ ?_
 refine b_ bin_mul64 ?_
 refine mv_ ?_
 refine b_ bin_leq ?_
 refine dn_ hK28 ?_
 rcases ite_ H with ⟨c29, H⟩ | ⟨c29, H⟩
 · refine wy_ (dT c29) (rg_ (mv_ ?_))
   refine as_ ?_
   refine WL.done ?_
   exact wr_ k23 iq ⟨(wrap64 (Int.tdiv (wrap64 (i15 + i16)) 2)), i16, ⟨_, H, Ho14⟩, rfl, HS⟩
 refine wn_ (dF c29) (rg_ (mv_ ?_))
 refine as_ ?_
 refine WL.done ?_
 exact wr_ k23 iq ⟨i15, (wrap64 (Int.tdiv (wrap64 (i15 + i16)) 2)), ⟨_, H, Ho14⟩, rfl, HS⟩
end Go.Proofs.YtoccifnjhbibcaaGreat.PFnExactKeyValue
