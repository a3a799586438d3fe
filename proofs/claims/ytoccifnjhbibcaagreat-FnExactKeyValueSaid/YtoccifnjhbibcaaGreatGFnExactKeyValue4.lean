/- Functions that the statement reaches, as Lean functions, and the proof that a call of each comes to just its answer; written by this claim's own program. No conditions. -/
import Derived.Test.YtoccifnjhbibcaaGreatGFnExactKeyValue3
namespace Go.Proofs.YtoccifnjhbibcaaGreat.PFnExactKeyValue
open Tryz
open Go.RowKit Go.Proofs.YtoccifnjhbibcaaGreatW.PrintWords Go.Proofs.YtoccifnjhbibcaaGreatW.PrintLast Go.Proofs.YtoccifnjhbibcaaGreatW.PrintMore Go.Proofs.YtoccifnjhbibcaaGreat.XW Go.Proofs.YtoccifnjhbibcaaGreat.XOp Go.Proofs.YtoccifnjhbibcaaGreat.XSt Go.Proofs.YtoccifnjhbibcaaGreat.XDraw
set_option linter.unusedVariables false
set_option linter.unusedSimpArgs false
set_option maxHeartbeats 4000000
set_option maxRecDepth 20000
def impl_placeOk.g (k : Nat) (x0 : S34) (a1 : Int) (a2 : Int) : Option Bool := ((impl_ModelOk.g k x0).bind fun t5 => (if t5 = true then ((impl_in.f a1 0 (wrap64 ((x0.f5.length : Int) - 1))).bind fun t13 => (if t13 = true then ((impl_in.f a2 0 (wrap64 (x0.f2 - 1))).bind fun t17 => (some t17)) else (some false))) else (some false)))
theorem impl_placeOk.runs (k : Nat) (cs0 : List Value) (x0 : S34) (a1 : Int) (a2 : Int) (r : Bool) (w : World) (hk0 : k34.K w x0 cs0) (H : impl_placeOk.g k x0 a1 a2 = some r) :
   Calls prog 103 #[.agg cs0.toArray, vi a1, vi a2] w fun e w' => e = .returned (.bool r) ∧ Below w.heap.size w w' := by
 have el0 : cs0.length = 14 := k34.K_len hk0
 unfold impl_placeOk.g at H
 have HS : St (fun _ => True) w w [] [(kF k34 x0 cs0)] [] := St.start (foot_cons (foot_K h34 hk0) foot_nil)
 refine cw_ (n := 24) func103 fun R_ hR_ => ?_
 refine sr_ fun _ hK1 => ?_
 refine bo_ HS (fun b2 w3 hb2 HS => ?_)
 refine ad_ hK1 ?_
 refine sr_ fun _ hK4 => ?_
 refine v_ (Run.loadS (cs := cs0) rfl rfl underlying34 rfl (by rw [el0]; kernel_rfl) (box_part (HS.mu 0 rfl) part_all)) ?_
 obtain ⟨t5, ha6, H⟩ := bind_some H
 refine cs_ HS func68 (impl_ModelOk.runs k cs0 x0 t5 _ (HS.getO 0 rfl) ha6) (fun w7 HS => ?_)
 clear ha6
 refine mv_ ?_
 rcases eti_ H with ⟨c8, H⟩ | ⟨c8, H⟩
 · refine off_ (c' := false) (bF c8) ?_
   refine WL.know 9 (bF c8) ?_
   refine fast_ ?_
   refine via_ hK4 ?_
   obtain rfl := os H
   exact rt1 Tryz.f103 rfl rfl hR_ ⟨rfl, HS.b⟩
 refine on_ c8 ?_
 refine mv_ ?_
 refine on_ c8 ?_
 refine v_ (fa_ underlying34) ?_
 refine on_ c8 ?_
 obtain ⟨A9, c10, hc11, le12, HS⟩ := HS.sO 0 rfl at34_5
 refine v_ (lb_ (HS.mu 0 rfl) underlying27 hc11) ?_
 refine on_ c8 ?_
 refine ln_ underlying27 ?_
 refine on_ c8 ?_
 refine b_ bin_sub64 ?_
 refine on_ c8 ?_
 obtain ⟨t13, ha14, H⟩ := bind_some H
 refine cs0_ HS func139 (impl_in.calls a1 0 (wrap64 ((x0.f5.length : Int) - 1)) t13 _ ha14) (fun w15 HS => ?_)
 clear ha14
 refine v_ (Run.pickT rfl rfl c8 rfl) ?_
 refine mv_ ?_
 rcases eti_ H with ⟨c16, H⟩ | ⟨c16, H⟩
 · refine off_ (c' := false) (bF c16) ?_
   refine WL.know 17 (bF c16) ?_
   refine fast_ ?_
   refine via_ hK4 ?_
   obtain rfl := os H
   exact rt1 Tryz.f103 rfl rfl hR_ ⟨rfl, HS.b⟩
 refine on_ c16 ?_
 refine mv_ ?_
 refine on_ c16 ?_
 refine v_ (fa_ underlying34) ?_
 refine on_ c16 ?_
 refine v_ (lb_ (HS.mu 0 rfl) underlying3 (at34_2 (HS.aO 1 rfl)).int) ?_
 refine on_ c16 ?_
 refine b_ bin_sub64 ?_
 refine on_ c16 ?_
 obtain ⟨t17, ha18, H⟩ := bind_some H
 refine cs0_ HS func139 (impl_in.calls a2 0 (wrap64 (x0.f2 - 1)) t17 _ ha18) (fun w19 HS => ?_)
 clear ha18
 refine v_ (Run.pickT rfl rfl c16 rfl) ?_
 refine ad_ hK4 ?_
 obtain rfl := os H
 exact rt1 Tryz.f103 rfl rfl hR_ ⟨rfl, HS.b⟩
def impl_Root.b0 (a0 : Int) (rec_ : Int → Int → Option (Int × Int)) (k22 : Nat) (i14 : Int) (i15 : Int) : Option (Int × Int) := (if (wrap64 (i15 - i14)) > 1 then (if (wrap64 ((wrap64 (Int.tdiv (wrap64 (i14 + i15)) 2)) * (wrap64 (Int.tdiv (wrap64 (i14 + i15)) 2)))) ≤ a0 then (rec_ (wrap64 (Int.tdiv (wrap64 (i14 + i15)) 2)) i15) else (rec_ i14 (wrap64 (Int.tdiv (wrap64 (i14 + i15)) 2)))) else (some (i14, i15)))
def impl_Root.l0 (a0 : Int) : Nat → Int → Int → Option (Int × Int)
 | 0, _, _ => none
 | k + 1, i14, i15 => impl_Root.b0 a0 (impl_Root.l0 a0 k) k i14 i15
def impl_Root.g (k : Nat) (a0 : Int) : Option Int := ((impl_in.f a0 0 1000000000000).bind fun t4 => (if t4 = true then ((impl_Root.l0 a0 k 0 1000001).bind (fun oc20 => (some oc20.1))) else (some 0)))
theorem impl_Root.runs (k : Nat) (a0 : Int) (r : Int) (w : World) (H : impl_Root.g k a0 = some r) :
   Calls prog 241 #[vi a0] w fun e w' => e = .returned (vi r) ∧ Below w.heap.size w w' := by
 unfold impl_Root.g at H
 have HS : St (fun _ => True) w w [] [] [] := St.start foot_nil
 refine cw_ (n := 25) func241 fun R_ hR_ => ?_
 refine sr_ fun _ hK1 => ?_
 refine ad_ hK1 ?_
 refine WC.seq fun _ hK2 => ?_
 refine sr_ fun _ hK3 => ?_
 refine mv_ ?_
 obtain ⟨t4, ha5, H⟩ := bind_some H
 refine cs0_ HS func139 (impl_in.calls a0 0 1000000000000 t4 _ ha5) (fun w6 HS => ?_)
 clear ha5
 refine nt_ ?_
 refine dn_ hK3 ?_
 rcases eti_ H with ⟨c7, H⟩ | ⟨c7, H⟩
 · refine wy_ (nB (bF c7)) (sr_ fun _ hK29 => ?_)
   refine ad_ hK29 ?_
   obtain rfl := os H
   exact rt1 Tryz.f241 rfl rfl hR_ ⟨rfl, HS.b⟩
 refine wn_ (nB c7) (WC.skip (via_ hK2 (sr_ fun _ hK8 => ?_)))
 refine as_ ?_
 refine ad_ hK8 ?_
 refine WC.seq fun K9 hK9 => ?_
 refine WC.block ?_
 obtain ⟨G10, hG11, oc12, H, Ho13⟩ := open_G H
 let J16 := fun (i14 : Int) (i15 : Int) (E_ : Env) (W_ : World) => E_ = [(0, vi a0), (3, vi i14), (4, vi i15)] ∧ St (fun _ => True) w W_ [] [] []
 have X17 : ∀ E_ W_, (∃ i14 i15, G10 (i14, i15) = some r ∧ J16 i14 i15 E_ W_) → ∀ a, Fits a 25 E_ → K9 a W_ := by
   rintro E_ w18 ⟨i14, i15, H, rfl, HS⟩
   rw [hG11] at H
   (try dsimp only at H)
   refine hK9 _ _ ?_
   refine sr_ fun _ hK19 => ?_
   refine mv_ ?_
   refine ad_ hK19 ?_
   obtain rfl := os H
   exact rt1 Tryz.f241 rfl rfl hR_ ⟨rfl, HS.b⟩
 clear hK9
 refine WC.loop (fun k_ E_ W_ => ∃ i14 i15, (∃ o_, impl_Root.l0 a0 k_ i14 i15 = some o_ ∧ G10 o_ = some r) ∧ J16 i14 i15 E_ W_) k ⟨0, 1000001, ⟨_, H, Ho13⟩, rfl, HS⟩ (sb rfl) ?_
 rintro k_ E_ w21 ⟨i14, i15, ⟨oc12, H, Ho13⟩, rfl, HS⟩
 rcases k_ with _ | k22
 · exact no_ H
 replace H : impl_Root.b0 a0 (impl_Root.l0 a0 k22) k22 i14 i15 = some oc12 := H
 unfold impl_Root.b0 at H
 refine WC.seq fun _ hK23 => ?_
 refine sr_ fun _ hK24 => ?_
 refine mv_ ?_
 refine mv_ ?_
 refine b_ bin_sub64 ?_
 refine b_ bin_gtr ?_
 refine dn_ hK24 ?_
 rcases eti_ H with ⟨c25, H⟩ | ⟨c25, H⟩
 · refine wn_ (dF c25) (WC.exit ?_)
   obtain rfl := os H
   exact wv_ iq X17 ⟨i14, i15, Ho13, rfl, HS⟩
 refine wy_ (dT c25) (WC.skip (via_ hK23 (WC.block (sr_ fun _ hK26 => ?_))))
 refine mv_ ?_
 refine mv_ ?_
 refine b_ bin_add64 ?_
 refine v_ (Run.bin rfl rfl rfl (bin_quo64 (show (2 : Int) ≠ 0 by decide))) ?_
 refine ad_ hK26 ?_
 refine sr_ fun _ hK27 => ?_
 refine mv_ ?_
 refine mv_ ?_
 refine b_ bin_mul64 ?_
 refine mv_ ?_
 refine b_ bin_leq ?_
 refine dn_ hK27 ?_
 rcases ite_ H with ⟨c28, H⟩ | ⟨c28, H⟩
 · refine wy_ (dT c28) (rg_ (mv_ ?_))
   refine as_ ?_
   refine WL.done ?_
   exact wr_ k22 iq ⟨(wrap64 (Int.tdiv (wrap64 (i14 + i15)) 2)), i15, ⟨_, H, Ho13⟩, rfl, HS⟩
 refine wn_ (dF c28) (rg_ (mv_ ?_))
 refine as_ ?_
 refine WL.done ?_
 exact wr_ k22 iq ⟨i14, (wrap64 (Int.tdiv (wrap64 (i14 + i15)) 2)), ⟨_, H, Ho13⟩, rfl, HS⟩
def impl_Norm.b2 (l0 : List Int) (rec_ : Int → Int → Option (Int × Int)) (k110 : Nat) (i24 : Int) (i25 : Int) : Option (Int × Int) := (if i25 < (l0.length : Int) then (if 0 ≤ i25 ∧ i25 < (l0.length : Int) then (rec_ (wrap64 (i24 + (l0.getD i25.toNat 0))) (wrap64 (i25 + 1))) else none) else (some (i24, i25)))
def impl_Norm.l2 (l0 : List Int) : Nat → Int → Int → Option (Int × Int)
 | 0, _, _ => none
 | k + 1, i24, i25 => impl_Norm.b2 l0 (impl_Norm.l2 l0 k) k i24 i25
def impl_Norm.b1 (l0 : List Int) (t30 : Int) (rec_ : Int → Int → Option (Int × Int)) (k99 : Nat) (i40 : Int) (i41 : Int) : Option (Int × Int) := (if i41 < (l0.length : Int) then (if 0 ≤ i41 ∧ i41 < (l0.length : Int) then (rec_ (wrap64 (i40 + (wrap64 ((wrap64 ((l0.getD i41.toNat 0) - t30)) * (wrap64 ((l0.getD i41.toNat 0) - t30)))))) (wrap64 (i41 + 1))) else none) else (some (i40, i41)))
def impl_Norm.l1 (l0 : List Int) (t30 : Int) : Nat → Int → Int → Option (Int × Int)
 | 0, _, _ => none
 | k + 1, i40, i41 => impl_Norm.b1 l0 t30 (impl_Norm.l1 l0 t30 k) k i40 i41
def impl_Norm.b0 (l0 : List Int) (l1 : List Int) (t30 : Int) (t49 : Int) (rec_ : (List Int) → Int → Option ((List Int) × Int)) (k74 : Nat) (xs61 : List Int) (i64 : Int) : Option ((List Int) × Int) := (if i64 < (l0.length : Int) then (if 0 ≤ i64 ∧ i64 < (l0.length : Int) then (if 0 ≤ i64 ∧ i64 < (l1.length : Int) then ((impl_FloorDiv.f k74 (wrap64 ((wrap64 ((l0.getD i64.toNat 0) - t30)) * (l1.getD i64.toNat 0))) t49).bind fun t86 => ((impl_Clamp.f t86 127).bind fun t89 => (if (xs61.length) < 4294967296 then (rec_ (xs61 ++ [t89]) (wrap64 (i64 + 1))) else none))) else none) else none) else (some (xs61, i64)))
def impl_Norm.l0 (l0 : List Int) (l1 : List Int) (t30 : Int) (t49 : Int) : Nat → (List Int) → Int → Option ((List Int) × Int)
 | 0, _, _ => none
 | k + 1, xs61, i64 => impl_Norm.b0 l0 l1 t30 t49 (impl_Norm.l0 l0 l1 t30 t49 k) k xs61 i64
def impl_Norm.g (k : Nat) (l0 : List Int) (l1 : List Int) : Option ((List Int) × Bool) := ((impl_in.f (l0.length : Int) 1 8).bind fun t4 => (if t4 = true then (if (l1.length : Int) = (l0.length : Int) then ((impl_allIn.f l0 (-1000) 1000).bind fun t9 => (if t9 = true then ((impl_allIn.f l1 0 127).bind fun t13 => (if t13 = true then ((impl_Norm.l2 l0 k 0 0).bind (fun oc108 => ((impl_FloorDiv.f k oc108.1 (l0.length : Int)).bind fun t30 => ((impl_Norm.l1 l0 t30 k 0 0).bind (fun oc97 => ((impl_FloorDiv.f k oc97.1 (l0.length : Int)).bind fun t46 => ((impl_Root.g k (wrap64 (t46 + 1))).bind fun t49 => ((impl_Norm.l0 l0 l1 t30 t49 k ([] : List Int) 0).bind (fun oc72 => (some (oc72.1, true))))))))))) else (some ([], false)))) else (some ([], false)))) else (some ([], false))) else (some ([], false))))
theorem impl_Norm.runs (k : Nat) (A0 : Option Addr) (c0 : Nat) (l0 : List Int) (A1 : Option Addr) (c1 : Nat) (l1 : List Int) (r1 : List Int) (r2 : Bool) (w : World) (hr0 : kI.C w A0 l0.length l0) (hc0 : l0.length ≤ c0) (hr1 : kI.C w A1 l1.length l1) (hc1 : l1.length ≤ c1) (H : impl_Norm.g k l0 l1 = some (r1, r2)) :
   Calls prog 183 #[.slice A0 l0.length c0, .slice A1 l1.length c1] w fun e w' => ∃ (A0_ : Option Addr) (c0_ : Nat), e = .returned (.tuple #[.slice A0_ r1.length c0_, .bool r2]) ∧ r1.length ≤ c0_ ∧ Foot (cF kI A0_ r1) w' (fun k_ => w.heap.size ≤ k_) ∧ Below w.heap.size w w' := by
 unfold impl_Norm.g at H
 have HS : St (fun _ => True) w w [] [(cF kI A0 l0), (cF kI A1 l1)] [] := St.start (foot_cons (foot_C (Kd.heap_int _) hr0) (foot_cons (foot_C (Kd.heap_int _) hr1) foot_nil))
 refine cw_ (n := 98) func183 fun R_ hR_ => ?_
 refine sr_ fun _ hK1 => ?_
 refine as_ ?_
 refine ad_ hK1 ?_
 refine WC.seq fun _ hK2 => ?_
 refine sr_ fun _ hK3 => ?_
 refine mv_ ?_
 refine ln_ underlying28 ?_
 obtain ⟨t4, ha5, H⟩ := bind_some H
 refine cs0_ HS func139 (impl_in.calls (l0.length : Int) 1 8 t4 _ ha5) (fun w6 HS => ?_)
 clear ha5
 refine nt_ ?_
 refine mv_ ?_
 rcases eti_ H with ⟨c7, H⟩ | ⟨c7, H⟩
 · refine off_ (c' := true) (nB (bF c7)) ?_
   refine WL.know 21 (nB (bF c7)) ?_
   refine fast_ ?_
   refine via_ hK3 (wy_ rfl ?_)
   refine sr_ fun _ hK122 => ?_
   refine as_ ?_
   refine ad_ hK122 ?_
   obtain ⟨rfl, rfl⟩ := Prod.mk.inj (os H)
   exact rt2 Tryz.f183 rfl rfl rfl hR_ ⟨_, _, rfl, (Nat.le_refl _), (fun W_ _ => Kd.C_nil _ _), HS.b⟩
 refine on_ (nB c7) (mv_ ?_)
 refine on_ (nB c7) (ln_ underlying28 ?_)
 refine on_ (nB c7) (mv_ ?_)
 refine on_ (nB c7) (ln_ underlying28 ?_)
 refine on_ (nB c7) (b_ bin_neq ?_)
 refine v_ (Run.pickF rfl rfl (nB c7) rfl) ?_
 refine mv_ ?_
 rcases eti_ H with ⟨c8, H⟩ | ⟨c8, H⟩
 · refine off_ (c' := true) (qT c8) ?_
   refine WL.know 28 (qT c8) ?_
   refine fast_ ?_
   refine via_ hK3 (wy_ rfl ?_)
   refine sr_ fun _ hK121 => ?_
   refine as_ ?_
   refine ad_ hK121 ?_
   obtain ⟨rfl, rfl⟩ := Prod.mk.inj (os H)
   exact rt2 Tryz.f183 rfl rfl rfl hR_ ⟨_, _, rfl, (Nat.le_refl _), (fun W_ _ => Kd.C_nil _ _), HS.b⟩
 refine on_ (qF c8) (mv_ ?_)
 refine on_ (qF c8) ?_
 obtain ⟨t9, ha10, H⟩ := bind_some H
 refine cs_ HS func157 (impl_allIn.calls A0 c0 l0 (-1000) 1000 t9 _ (HS.getO 0 rfl) hc0 ha10) (fun w11 HS => ?_)
 clear ha10
 refine on_ (qF c8) (nt_ ?_)
 refine v_ (Run.pickF rfl rfl (qF c8) rfl) ?_
 refine mv_ ?_
 rcases eti_ H with ⟨c12, H⟩ | ⟨c12, H⟩
 · refine off_ (c' := true) (nB (bF c12)) ?_
   refine WL.know 33 (nB (bF c12)) ?_
   refine fast_ ?_
   refine via_ hK3 (wy_ rfl ?_)
   refine sr_ fun _ hK120 => ?_
   refine as_ ?_
   refine ad_ hK120 ?_
   obtain ⟨rfl, rfl⟩ := Prod.mk.inj (os H)
   exact rt2 Tryz.f183 rfl rfl rfl hR_ ⟨_, _, rfl, (Nat.le_refl _), (fun W_ _ => Kd.C_nil _ _), HS.b⟩
 refine on_ (nB c12) (mv_ ?_)
 refine on_ (nB c12) ?_
 obtain ⟨t13, ha14, H⟩ := bind_some H
 refine cs_ HS func157 (impl_allIn.calls A1 c1 l1 0 127 t13 _ (HS.getO 1 rfl) hc1 ha14) (fun w15 HS => ?_)
 clear ha14
 refine on_ (nB c12) (nt_ ?_)
 refine v_ (Run.pickF rfl rfl (nB c12) rfl) ?_
 refine dn_ hK3 ?_
 rcases eti_ H with ⟨c16, H⟩ | ⟨c16, H⟩
 · refine wy_ (nB (bF c16)) (sr_ fun _ hK119 => ?_)
   refine as_ ?_
   refine ad_ hK119 ?_
   obtain ⟨rfl, rfl⟩ := Prod.mk.inj (os H)
   exact rt2 Tryz.f183 rfl rfl rfl hR_ ⟨_, _, rfl, (Nat.le_refl _), (fun W_ _ => Kd.C_nil _ _), HS.b⟩
 refine wn_ (nB c16) (WC.skip (via_ hK2 (sr_ fun _ hK17 => ?_)))
 refine ad_ hK17 ?_
 refine WC.seq fun K18 hK18 => ?_
 refine sr_ fun _ hK19 => ?_
 refine mv_ ?_
 refine ln_ underlying28 ?_
 refine mv_ ?_
 refine dn_ hK19 (WC.block ?_)
 obtain ⟨G20, hG21, oc22, H, Ho23⟩ := open_G H
 let J26 := fun (i24 : Int) (i25 : Int) (E_ : Env) (W_ : World) => E_ = [(0, .slice A0 l0.length c0), (1, .slice A1 l1.length c1), (6, vi i24), (38, .slice A0 l0.length c0), (39, vi (l0.length : Int)), (40, vi i25)] ∧ St (fun _ => True) w W_ [] [(cF kI A0 l0), (cF kI A1 l1)] []
 have X27 : ∀ E_ W_, (∃ i24 i25, G20 (i24, i25) = some (r1, r2) ∧ J26 i24 i25 E_ W_) → ∀ a, Fits a 98 E_ → K18 a W_ := by
   rintro E_ w28 ⟨i24, i25, H, rfl, HS⟩
   rw [hG21] at H
   (try dsimp only at H)
   refine hK18 _ _ ?_
   refine sr_ fun _ hK29 => ?_
   refine mv_ ?_
   refine mv_ ?_
   refine ln_ underlying28 ?_
   obtain ⟨t30, ha31, H⟩ := bind_some H
   refine cs0_ HS func240 (impl_FloorDiv.calls k i24 (l0.length : Int) t30 _ ha31) (fun w32 HS => ?_)
   clear ha31
   refine ad_ hK29 ?_
   refine sr_ fun _ hK33 => ?_
   refine ad_ hK33 ?_
   refine WC.seq fun K34 hK34 => ?_
   refine sr_ fun _ hK35 => ?_
   refine mv_ ?_
   refine ln_ underlying28 ?_
   refine mv_ ?_
   refine dn_ hK35 (WC.block ?_)
   obtain ⟨G36, hG37, oc38, H, Ho39⟩ := open_G H
   let J42 := fun (i40 : Int) (i41 : Int) (E_ : Env) (W_ : World) => E_ = [(0, .slice A0 l0.length c0), (1, .slice A1 l1.length c1), (9, vi t30), (10, vi i40), (52, .slice A0 l0.length c0), (53, vi (l0.length : Int)), (54, vi i41)] ∧ St (fun _ => True) w W_ [] [(cF kI A0 l0), (cF kI A1 l1)] []
   have X43 : ∀ E_ W_, (∃ i40 i41, G36 (i40, i41) = some (r1, r2) ∧ J42 i40 i41 E_ W_) → ∀ a, Fits a 98 E_ → K34 a W_ := by
     rintro E_ w44 ⟨i40, i41, H, rfl, HS⟩
     rw [hG37] at H
     (try dsimp only at H)
     refine hK34 _ _ ?_
     refine sr_ fun _ hK45 => ?_
     refine mv_ ?_
     refine mv_ ?_
     refine ln_ underlying28 ?_
     obtain ⟨t46, ha47, H⟩ := bind_some H
     refine cs0_ HS func240 (impl_FloorDiv.calls k i40 (l0.length : Int) t46 _ ha47) (fun w48 HS => ?_)
     clear ha47
     refine b_ bin_add64 ?_
     obtain ⟨t49, ha50, H⟩ := bind_some H
     refine cs_ HS func241 (impl_Root.runs k (wrap64 (t46 + 1)) t49 _  ha50) (fun w51 HS => ?_)
     clear ha50
     refine ad_ hK45 ?_
     refine sr_ fun _ hK52 => ?_
     refine WL.lit0 HS rfl rfl (by decide) rfl underlying28 (sz := 1) (by kernel_rfl) (fun v53 w54 HS => ?_)
     replace HS := HS.deriveN (p := (rF kI ([] : List Int) [])) (fun _ _ => Reps.none _ _)
     refine ad_ hK52 ?_
     refine WC.seq fun K55 hK55 => ?_
     refine sr_ fun _ hK56 => ?_
     refine mv_ ?_
     refine ln_ underlying28 ?_
     refine mv_ ?_
     refine dn_ hK56 (WC.block ?_)
     obtain ⟨G57, hG58, oc59, H, Ho60⟩ := open_G H
     let J65 := fun (xs61 : List Int) v62 I63 (i64 : Int) (E_ : Env) (W_ : World) => E_ = [(1, .slice A1 l1.length c1), (9, vi t30), (13, vi t49), (14, v62), (75, .slice A0 l0.length c0), (76, vi (l0.length : Int)), (77, vi i64)] ∧ St (fun _ => True) w W_ [rowM w.heap.size 3 1 v62 xs61.length I63] [(cF kI A0 l0), (cF kI A1 l1)] [(rF kI xs61 I63)]
     have X66 : ∀ E_ W_, (∃ xs61 v62 I63 i64, G57 (xs61, i64) = some (r1, r2) ∧ J65 xs61 v62 I63 i64 E_ W_) → ∀ a, Fits a 98 E_ → K55 a W_ := by
       rintro E_ w67 ⟨xs61, v62, I63, i64, H, rfl, HS⟩
       rw [hG58] at H
       (try dsimp only at H)
       refine hK55 _ _ ?_
       refine sr_ fun _ hK68 => ?_
       refine fast_ ?_
       refine via_ hK68 (WC.ret ?_)
       obtain ⟨A69, c70, rfl⟩ := row_slice (HS.mu 0 rfl)
       have le71 := row_le (HS.mu 0 rfl)
       replace HS := HS.freezeN 0 (p := (cF kI A69 (xs61))) rfl (fun W_ hm_ h_ => row_C (by rfl) hm_ h_.1)
       dsimp only [List.eraseIdx] at HS
       obtain ⟨rfl, rfl⟩ := Prod.mk.inj (os H)
       exact fin2 Tryz.f183 rfl rfl rfl hR_ ⟨_, _, rfl, le71, (foot_fresh (HS.footN 0 rfl)), HS.b⟩
     clear hK55
     refine WC.loop (fun k_ E_ W_ => ∃ xs61 v62 I63 i64, (∃ o_, impl_Norm.l0 l0 l1 t30 t49 k_ xs61 i64 = some o_ ∧ G57 o_ = some (r1, r2)) ∧ J65 xs61 v62 I63 i64 E_ W_) k ⟨([] : List Int), v53, ([]), 0, ⟨_, H, Ho60⟩, rfl, HS⟩ (sb rfl) ?_
     rintro k_ E_ w73 ⟨xs61, v62, I63, i64, ⟨oc59, H, Ho60⟩, rfl, HS⟩
     rcases k_ with _ | k74
     · exact no_ H
     replace H : impl_Norm.b0 l0 l1 t30 t49 (impl_Norm.l0 l0 l1 t30 t49 k74) k74 xs61 i64 = some oc59 := H
     unfold impl_Norm.b0 at H
     refine sr_ fun _ hK75 => ?_
     refine b_ bin_lss ?_
     refine dn_ hK75 (WC.seq fun _ hK76 => ?_)
     rcases eti_ H with ⟨c77, H⟩ | ⟨c77, H⟩
     · refine wn_ (dF c77) (WC.exit ?_)
       obtain rfl := os H
       exact wv_ iq X66 ⟨xs61, v62, I63, i64, Ho60, rfl, HS⟩
     refine wy_ (dT c77) (WC.skip (via_ hK76 (WC.seq fun _ hK78 => ?_)))
     refine WC.block (sr_ fun _ hK79 => ?_)
     refine mv_ ?_
     obtain ⟨⟨q80, q81⟩, H⟩ := if_some H
     obtain ⟨ad82, rfl⟩ := C_open (HS.getO 0 rfl) (lenpos q80 q81)
     refine v_ (ia_ underlying28 1 q80 q81) ?_
     refine v_ (Run.load rfl rfl underlying3 rfl (int_cell (HS.getO 0 rfl) i64 q80 q81)) ?_
     refine as_ ?_
     refine ad_ hK79 ?_
     refine rg_ (mv_ ?_)
     refine mv_ ?_
     refine mv_ ?_
     refine b_ bin_sub64 ?_
     refine mv_ ?_
     refine mv_ ?_
     obtain ⟨⟨q83, q84⟩, H⟩ := if_some H
     obtain ⟨ad85, rfl⟩ := C_open (HS.getO 1 rfl) (lenpos q83 q84)
     refine v_ (ia_ underlying28 1 q83 q84) ?_
     refine v_ (Run.load rfl rfl underlying3 rfl (int_cell (HS.getO 1 rfl) i64 q83 q84)) ?_
     refine b_ bin_mul64 ?_
     refine mv_ ?_
     obtain ⟨t86, ha87, H⟩ := bind_some H
     refine cs0_ HS func240 (impl_FloorDiv.calls k74 (wrap64 ((wrap64 ((l0.getD i64.toNat 0) - t30)) * (l1.getD i64.toNat 0))) t49 t86 _ ha87) (fun w88 HS => ?_)
     clear ha87
     obtain ⟨t89, ha90, H⟩ := bind_some H
     refine cs_ HS func242 (impl_Clamp.calls t86 127 t89 _ ha90) (fun w91 HS => ?_)
     clear ha90
     refine WL.val rfl rfl (by decide) (Run.lit1 (z := (vi 0)) (vs := [vi t89]) rfl rfl rfl underlying28 (by kernel_rfl) (ble_ rfl) (ble_ rfl)) ?_
     have HS1 := HS.below (below_alloc (Below.refl _ _) (.cells #[vi t89] 3))
     obtain ⟨q92, H⟩ := if_some H
     refine WL.append HS1 0 rfl rfl rfl (by decide) rfl (vi 0) 8 underlying28 (by kernel_rfl) rfl (by decide) (by decide) rfl rfl [vi t89] rfl (lit_news _ _ _) (oneL rfl) (by omega) ((xs61 ++ [t89]).length) (by simp) (fun v93 w94 I95 hI96 HS => ?_)
     dsimp only [List.set] at HS
     replace HS := HS.deriveN (p := (rF kI (xs61 ++ [t89]) I95)) (fun W_ hN_ => reps_snoc hI96 hN_.1 (K_int _))
     clear HS1
     refine ad_ hK78 ?_
     refine rg_ (b_ bin_add64 ?_)
     refine mv_ ?_
     refine WL.done ?_
     exact wr_ k74 iq ⟨(xs61 ++ [t89]), v93, I95, (wrap64 (i64 + 1)), ⟨_, H, Ho60⟩, rfl, (St.pk HS [0, 1] [0] rfl rfl)⟩
   clear hK34
   refine WC.loop (fun k_ E_ W_ => ∃ i40 i41, (∃ o_, impl_Norm.l1 l0 t30 k_ i40 i41 = some o_ ∧ G36 o_ = some (r1, r2)) ∧ J42 i40 i41 E_ W_) k ⟨0, 0, ⟨_, H, Ho39⟩, rfl, HS⟩ (sb rfl) ?_
   rintro k_ E_ w98 ⟨i40, i41, ⟨oc38, H, Ho39⟩, rfl, HS⟩
   rcases k_ with _ | k99
   · exact no_ H
   replace H : impl_Norm.b1 l0 t30 (impl_Norm.l1 l0 t30 k99) k99 i40 i41 = some oc38 := H
   unfold impl_Norm.b1 at H
   refine sr_ fun _ hK100 => ?_
   refine b_ bin_lss ?_
   refine dn_ hK100 (WC.seq fun _ hK101 => ?_)
   rcases eti_ H with ⟨c102, H⟩ | ⟨c102, H⟩
   · refine wn_ (dF c102) (WC.exit ?_)
     obtain rfl := os H
     exact wv_ iq X43 ⟨i40, i41, Ho39, rfl, HS⟩
   refine wy_ (dT c102) (WC.skip (via_ hK101 (WC.seq fun _ hK103 => ?_)))
   refine WC.block (sr_ fun _ hK104 => ?_)
   obtain ⟨⟨q105, q106⟩, H⟩ := if_some H
   obtain ⟨ad107, rfl⟩ := C_open (HS.getO 0 rfl) (lenpos q105 q106)
   refine v_ (ia_ underlying28 1 q105 q106) ?_
   refine v_ (Run.load rfl rfl underlying3 rfl (int_cell (HS.getO 0 rfl) i41 q105 q106)) ?_
   refine ad_ hK104 ?_
   refine rg_ (mv_ ?_)
   refine mv_ ?_
   refine mv_ ?_
   refine b_ bin_sub64 ?_
   refine mv_ ?_
   refine mv_ ?_
   refine b_ bin_sub64 ?_
   refine b_ bin_mul64 ?_
   refine b_ bin_add64 ?_
   refine ad_ hK103 ?_
   refine rg_ (b_ bin_add64 ?_)
   refine mv_ ?_
   refine WL.done ?_
   exact wr_ k99 iq ⟨(wrap64 (i40 + (wrap64 ((wrap64 ((l0.getD i41.toNat 0) - t30)) * (wrap64 ((l0.getD i41.toNat 0) - t30)))))), (wrap64 (i41 + 1)), ⟨_, H, Ho39⟩, rfl, HS⟩
 clear hK18
 refine WC.loop (fun k_ E_ W_ => ∃ i24 i25, (∃ o_, impl_Norm.l2 l0 k_ i24 i25 = some o_ ∧ G20 o_ = some (r1, r2)) ∧ J26 i24 i25 E_ W_) k ⟨0, 0, ⟨_, H, Ho23⟩, rfl, HS⟩ (sb rfl) ?_
 rintro k_ E_ w109 ⟨i24, i25, ⟨oc22, H, Ho23⟩, rfl, HS⟩
 rcases k_ with _ | k110
 · exact no_ H
 replace H : impl_Norm.b2 l0 (impl_Norm.l2 l0 k110) k110 i24 i25 = some oc22 := H
 unfold impl_Norm.b2 at H
 refine sr_ fun _ hK111 => ?_
 refine b_ bin_lss ?_
 refine dn_ hK111 (WC.seq fun _ hK112 => ?_)
 rcases eti_ H with ⟨c113, H⟩ | ⟨c113, H⟩
 · refine wn_ (dF c113) (WC.exit ?_)
   obtain rfl := os H
   exact wv_ iq X27 ⟨i24, i25, Ho23, rfl, HS⟩
 refine wy_ (dT c113) (WC.skip (via_ hK112 (WC.seq fun _ hK114 => ?_)))
 refine WC.block (sr_ fun _ hK115 => ?_)
 obtain ⟨⟨q116, q117⟩, H⟩ := if_some H
 obtain ⟨ad118, rfl⟩ := C_open (HS.getO 0 rfl) (lenpos q116 q117)
 refine v_ (ia_ underlying28 1 q116 q117) ?_
 refine v_ (Run.load rfl rfl underlying3 rfl (int_cell (HS.getO 0 rfl) i25 q116 q117)) ?_
 refine ad_ hK115 ?_
 refine rg_ (mv_ ?_)
 refine mv_ ?_
 refine b_ bin_add64 ?_
 refine ad_ hK114 ?_
 refine rg_ (b_ bin_add64 ?_)
 refine mv_ ?_
 refine WL.done ?_
 exact wr_ k110 iq ⟨(wrap64 (i24 + (l0.getD i25.toNat 0))), (wrap64 (i25 + 1)), ⟨_, H, Ho23⟩, rfl, HS⟩
def impl_rowSum.b0 (l0 : List Int) (l1 : List Int) (l2 : List Int) (rec_ : Int → Int → Option (Int × Int)) (k17 : Nat) (i9 : Int) (i10 : Int) : Option (Int × Int) := (if i10 < (l0.length : Int) then (if 0 ≤ i10 ∧ i10 < (l0.length : Int) then (if 0 ≤ (wrap64 (Int.tdiv i10 4)) ∧ (wrap64 (Int.tdiv i10 4)) < (l1.length : Int) then (if 0 ≤ i10 ∧ i10 < (l2.length : Int) then (rec_ (wrap64 (i9 + (wrap64 ((wrap64 ((l1.getD (wrap64 (Int.tdiv i10 4)).toNat 0) * (l0.getD i10.toNat 0))) * (l2.getD i10.toNat 0))))) (wrap64 (i10 + 1))) else none) else none) else none) else (some (i9, i10)))
def impl_rowSum.l0 (l0 : List Int) (l1 : List Int) (l2 : List Int) : Nat → Int → Int → Option (Int × Int)
 | 0, _, _ => none
 | k + 1, i9, i10 => impl_rowSum.b0 l0 l1 l2 (impl_rowSum.l0 l0 l1 l2 k) k i9 i10
def impl_rowSum.g (k : Nat) (l0 : List Int) (l1 : List Int) (l2 : List Int) : Option Int := ((impl_rowSum.l0 l0 l1 l2 k 0 0).bind (fun oc15 => (some oc15.1)))
theorem impl_rowSum.runs (k : Nat) (A0 : Option Addr) (c0 : Nat) (l0 : List Int) (A1 : Option Addr) (c1 : Nat) (l1 : List Int) (A2 : Option Addr) (c2 : Nat) (l2 : List Int) (r : Int) (w : World) (hr0 : kI.C w A0 l0.length l0) (hc0 : l0.length ≤ c0) (hr1 : kI.C w A1 l1.length l1) (hc1 : l1.length ≤ c1) (hr2 : kI.C w A2 l2.length l2) (hc2 : l2.length ≤ c2) (H : impl_rowSum.g k l0 l1 l2 = some r) :
   Calls prog 263 #[.slice A0 l0.length c0, .slice A1 l1.length c1, .slice A2 l2.length c2] w fun e w' => e = .returned (vi r) ∧ Below w.heap.size w w' := by
 unfold impl_rowSum.g at H
 have HS : St (fun _ => True) w w [] [(cF kI A0 l0), (cF kI A1 l1), (cF kI A2 l2)] [] := St.start (foot_cons (foot_C (Kd.heap_int _) hr0) (foot_cons (foot_C (Kd.heap_int _) hr1) (foot_cons (foot_C (Kd.heap_int _) hr2) foot_nil)))
 refine cw_ (n := 33) func263 fun R_ hR_ => ?_
 refine sr_ fun _ hK1 => ?_
 refine ad_ hK1 ?_
 refine sr_ fun _ hK2 => ?_
 refine ad_ hK2 ?_
 refine WC.seq fun K3 hK3 => ?_
 refine sr_ fun _ hK4 => ?_
 refine mv_ ?_
 refine ln_ underlying28 ?_
 refine mv_ ?_
 refine dn_ hK4 (WC.block ?_)
 obtain ⟨G5, hG6, oc7, H, Ho8⟩ := open_G H
 let J11 := fun (i9 : Int) (i10 : Int) (E_ : Env) (W_ : World) => E_ = [(1, .slice A1 l1.length c1), (2, .slice A2 l2.length c2), (7, vi i9), (10, .slice A0 l0.length c0), (11, vi (l0.length : Int)), (12, vi i10)] ∧ St (fun _ => True) w W_ [] [(cF kI A0 l0), (cF kI A1 l1), (cF kI A2 l2)] []
 have X12 : ∀ E_ W_, (∃ i9 i10, G5 (i9, i10) = some r ∧ J11 i9 i10 E_ W_) → ∀ a, Fits a 33 E_ → K3 a W_ := by
   rintro E_ w13 ⟨i9, i10, H, rfl, HS⟩
   rw [hG6] at H
   (try dsimp only at H)
   refine hK3 _ _ ?_
   refine sr_ fun _ hK14 => ?_
   refine mv_ ?_
   refine ad_ hK14 ?_
   obtain rfl := os H
   exact rt1 Tryz.f263 rfl rfl hR_ ⟨rfl, HS.b⟩
 clear hK3
 refine WC.loop (fun k_ E_ W_ => ∃ i9 i10, (∃ o_, impl_rowSum.l0 l0 l1 l2 k_ i9 i10 = some o_ ∧ G5 o_ = some r) ∧ J11 i9 i10 E_ W_) k ⟨0, 0, ⟨_, H, Ho8⟩, rfl, HS⟩ (sb rfl) ?_
 rintro k_ E_ w16 ⟨i9, i10, ⟨oc7, H, Ho8⟩, rfl, HS⟩
 rcases k_ with _ | k17
 · exact no_ H
 replace H : impl_rowSum.b0 l0 l1 l2 (impl_rowSum.l0 l0 l1 l2 k17) k17 i9 i10 = some oc7 := H
 unfold impl_rowSum.b0 at H
 refine sr_ fun _ hK18 => ?_
 refine b_ bin_lss ?_
 refine dn_ hK18 (WC.seq fun _ hK19 => ?_)
 rcases eti_ H with ⟨c20, H⟩ | ⟨c20, H⟩
 · refine wn_ (dF c20) (WC.exit ?_)
   obtain rfl := os H
   exact wv_ iq X12 ⟨i9, i10, Ho8, rfl, HS⟩
 refine wy_ (dT c20) (WC.skip (via_ hK19 (WC.seq fun _ hK21 => ?_)))
 refine WC.block (sr_ fun _ hK22 => ?_)
 refine mv_ ?_
 obtain ⟨⟨q23, q24⟩, H⟩ := if_some H
 obtain ⟨ad25, rfl⟩ := C_open (HS.getO 0 rfl) (lenpos q23 q24)
 refine v_ (ia_ underlying28 1 q23 q24) ?_
 refine v_ (Run.load rfl rfl underlying3 rfl (int_cell (HS.getO 0 rfl) i10 q23 q24)) ?_
 refine as_ ?_
 refine ad_ hK22 ?_
 refine WC.drawS HS [] rfl rfl (fun w26 HS => ?_)
 have HB := Below.refl w26.heap.size w26
 have HSW := HS
 refine dm_ 0 ?_
 refine dm_ 1 ?_
 refine dm_ 2 ?_
 refine dp_ 3 (fun _ => Run.bin rfl rfl rfl (bin_quo64 (show (4 : Int) ≠ 0 by decide))) ?_
 obtain ⟨⟨q27, q28⟩, H⟩ := if_some H
 obtain ⟨ad29, rfl⟩ := C_open (HS.getO 1 rfl) (lenpos q27 q28)
 refine di_ 4 underlying28 1 q27 q28 ?_
 refine dm_ 6 ?_
 refine dm_ 8 ?_
 refine dm_ 9 ?_
 obtain ⟨⟨q30, q31⟩, H⟩ := if_some H
 obtain ⟨ad32, rfl⟩ := C_open (HS.getO 2 rfl) (lenpos q30 q31)
 refine di_ 10 underlying28 1 q30 q31 ?_
 refine dt_ 5 (Below.refl _ _) (fun w_ hw_ => Run.load rfl rfl underlying3 rfl (int_cell ((HS.below hw_).getO 1 rfl) (wrap64 (Int.tdiv i10 4)) q27 q28)) ?_
 refine dp_ 7 (fun _ => Run.bin rfl rfl rfl bin_mul64) ?_
 refine dt_ 11 (Below.refl _ _) (fun w_ hw_ => Run.load rfl rfl underlying3 rfl (int_cell ((HS.below hw_).getO 2 rfl) i10 q30 q31)) ?_
 refine dp_ 12 (fun _ => Run.bin rfl rfl rfl bin_mul64) ?_
 refine dp_ 13 (fun _ => Run.bin rfl rfl rfl bin_add64) ?_
 refine dp_ 14 (fun _ => Run.assign rfl rfl) ?_
 refine dd_ ?_
 clear HB HSW
 refine via_ hK21 (rg_ (b_ bin_add64 ?_))
 refine mv_ ?_
 refine WL.done ?_
 exact wr_ k17 iq ⟨(wrap64 (i9 + (wrap64 ((wrap64 ((l1.getD (wrap64 (Int.tdiv i10 4)).toNat 0) * (l0.getD i10.toNat 0))) * (l2.getD i10.toNat 0))))), (wrap64 (i10 + 1)), ⟨_, H, Ho8⟩, rfl, HS⟩
def impl_wide.b1 (x0 : S30) (l1 : List Int) (rec_ : (List Int) → Int → Option ((List Int) × Int)) (k84 : Nat) (xs71 : List Int) (i74 : Int) : Option ((List Int) × Int) := (if i74 < (x0.f1.length : Int) then (if 0 ≤ i74 ∧ i74 < (x0.f1.length : Int) then (if 0 ≤ i74 ∧ i74 < (x0.f2.length : Int) then ((impl_rowSum.g k84 (x0.f1.getD i74.toNat []) (x0.f2.getD i74.toNat []) l1).bind fun t102 => (if (xs71.length) < 4294967296 then (rec_ (xs71 ++ [t102]) (wrap64 (i74 + 1))) else none)) else none) else none) else (some (xs71, i74)))
def impl_wide.l1 (x0 : S30) (l1 : List Int) : Nat → (List Int) → Int → Option ((List Int) × Int)
 | 0, _, _ => none
 | k + 1, xs71, i74 => impl_wide.b1 x0 l1 (impl_wide.l1 x0 l1 k) k xs71 i74
def impl_wide.b0 (x0 : S30) (l1 : List Int) (rec_ : (List Int) → Int → Option ((List Int) × Int)) (k34 : Nat) (xs21 : List Int) (i24 : Int) : Option ((List Int) × Int) := (if i24 < (x0.f1.length : Int) then (if 0 ≤ i24 ∧ i24 < (x0.f1.length : Int) then (if 0 ≤ i24 ∧ i24 < (x0.f2.length : Int) then ((impl_rowSum.g k34 (x0.f1.getD i24.toNat []) (x0.f2.getD i24.toNat []) l1).bind fun t52 => (if (xs21.length) < 4294967296 then (rec_ (xs21 ++ [t52]) (wrap64 (i24 + 1))) else none)) else none) else none) else (some (xs21, i24)))
def impl_wide.l0 (x0 : S30) (l1 : List Int) : Nat → (List Int) → Int → Option ((List Int) × Int)
 | 0, _, _ => none
 | k + 1, xs21, i24 => impl_wide.b0 x0 l1 (impl_wide.l0 x0 l1 k) k xs21 i24
def impl_wide.g (k : Nat) (x0 : S30) (l1 : List Int) : Option ((List Int) × Bool) := (if (x0.f1.length : Int) > 0 then (if (l1.length : Int) = x0.f0 then ((impl_allIn.f l1 (-127) 127).bind fun t8 => (if t8 = true then ((impl_wide.l0 x0 l1 k ([] : List Int) 0).bind (fun oc32 => (some (oc32.1, true)))) else (some ([], false)))) else (some ([], false))) else ((impl_wide.l1 x0 l1 k ([] : List Int) 0).bind (fun oc82 => (some (oc82.1, true)))))
theorem impl_wide.runs (k : Nat) (x0 : S30) (A0_1 : Option Addr) (c0_1 : Nat) (A0_2 : Option Addr) (c0_2 : Nat) (A1 : Option Addr) (c1 : Nat) (l1 : List Int) (r1 : List Int) (r2 : Bool) (w : World) (hr0_1 : kS3.C w A0_1 x0.f1.length x0.f1) (hc0_1 : x0.f1.length ≤ c0_1) (hr0_2 : kS3.C w A0_2 x0.f2.length x0.f2) (hc0_2 : x0.f2.length ≤ c0_2) (hr1 : kI.C w A1 l1.length l1) (hc1 : l1.length ≤ c1) (H : impl_wide.g k x0 l1 = some (r1, r2)) :
   Calls prog 212 #[.agg #[vi x0.f0, .slice A0_1 x0.f1.length c0_1, .slice A0_2 x0.f2.length c0_2, vi x0.f3, vi x0.f4], .slice A1 l1.length c1] w fun e w' => ∃ (A0_ : Option Addr) (c0_ : Nat), e = .returned (.tuple #[.slice A0_ r1.length c0_, .bool r2]) ∧ r1.length ≤ c0_ ∧ Foot (cF kI A0_ r1) w' (fun k_ => w.heap.size ≤ k_) ∧ Below w.heap.size w w' := by
 unfold impl_wide.g at H
 have HS : St (fun _ => True) w w [] [(cF kS3 A0_1 x0.f1), (cF kS3 A0_2 x0.f2), (cF kI A1 l1)] [] := St.start (foot_cons (foot_C (Kd.heap_slice _ (Kd.heap_int _)) hr0_1) (foot_cons (foot_C (Kd.heap_slice _ (Kd.heap_int _)) hr0_2) (foot_cons (foot_C (Kd.heap_int _) hr1) foot_nil)))
 refine cw_ (n := 47) func212 fun R_ hR_ => ?_
 refine sr_ fun _ hK1 => ?_
 refine bo_ HS (fun b2 w3 hb2 HS => ?_)
 refine as_ ?_
 refine ad_ hK1 ?_
 refine WC.seq fun _ hK4 => ?_
 refine sr_ fun _ hK5 => ?_
 refine v_ (fa_ underlying30) ?_
 refine v_ (lb_ (HS.mu 0 rfl) underlying26 rfl) ?_
 refine ln_ underlying26 ?_
 refine b_ bin_gtr ?_
 refine mv_ ?_
 rcases eti_ H with ⟨c6, H⟩ | ⟨c6, H⟩
 · refine off_ (c' := false) (dF c6) ?_
   refine WL.know 13 (dF c6) ?_
   refine fast_ ?_
   refine via_ hK5 (wn_ rfl ?_)
   refine WC.skip (via_ hK4 (sr_ fun _ hK62 => ?_))
   refine WL.lit0 HS rfl rfl (by decide) rfl underlying28 (sz := 1) (by kernel_rfl) (fun v63 w64 HS => ?_)
   replace HS := HS.deriveN (p := (rF kI ([] : List Int) [])) (fun _ _ => Reps.none _ _)
   refine ad_ hK62 ?_
   refine WC.seq fun K65 hK65 => ?_
   refine sr_ fun _ hK66 => ?_
   refine v_ (fa_ underlying30) ?_
   refine v_ (lb_ (HS.mu 1 rfl) underlying26 rfl) ?_
   refine ln_ underlying26 ?_
   refine mv_ ?_
   refine dn_ hK66 (WC.block ?_)
   obtain ⟨G67, hG68, oc69, H, Ho70⟩ := open_G H
   let J75 := fun (xs71 : List Int) v72 I73 (i74 : Int) (E_ : Env) (W_ : World) => E_ = [(1, .slice A1 l1.length c1), (2, .pointer (some ⟨b2, 0, none⟩)), (6, v72), (27, .slice A0_1 x0.f1.length c0_1), (28, vi (x0.f1.length : Int)), (29, vi i74)] ∧ St (fun _ => True) w W_ [rowM w.heap.size 3 1 v72 xs71.length I73, boxM b2 #[vi x0.f0, .slice A0_1 x0.f1.length c0_1, .slice A0_2 x0.f2.length c0_2, vi x0.f3, vi x0.f4] 30] [(cF kS3 A0_1 x0.f1), (cF kS3 A0_2 x0.f2), (cF kI A1 l1)] [(rF kI xs71 I73)]
   have X76 : ∀ E_ W_, (∃ xs71 v72 I73 i74, G67 (xs71, i74) = some (r1, r2) ∧ J75 xs71 v72 I73 i74 E_ W_) → ∀ a, Fits a 47 E_ → K65 a W_ := by
     rintro E_ w77 ⟨xs71, v72, I73, i74, H, rfl, HS⟩
     rw [hG68] at H
     (try dsimp only at H)
     refine hK65 _ _ ?_
     refine sr_ fun _ hK78 => ?_
     refine fast_ ?_
     refine via_ hK78 (WC.ret ?_)
     obtain ⟨A79, c80, rfl⟩ := row_slice (HS.mu 0 rfl)
     have le81 := row_le (HS.mu 0 rfl)
     replace HS := HS.freezeN 0 (p := (cF kI A79 (xs71))) rfl (fun W_ hm_ h_ => row_C (by rfl) hm_ h_.1)
     dsimp only [List.eraseIdx] at HS
     obtain ⟨rfl, rfl⟩ := Prod.mk.inj (os H)
     exact fin2 Tryz.f212 rfl rfl rfl hR_ ⟨_, _, rfl, le81, (foot_fresh (HS.footN 0 rfl)), HS.b⟩
   clear hK65
   refine WC.loop (fun k_ E_ W_ => ∃ xs71 v72 I73 i74, (∃ o_, impl_wide.l1 x0 l1 k_ xs71 i74 = some o_ ∧ G67 o_ = some (r1, r2)) ∧ J75 xs71 v72 I73 i74 E_ W_) k ⟨([] : List Int), v63, ([]), 0, ⟨_, H, Ho70⟩, rfl, HS⟩ (sb rfl) ?_
   rintro k_ E_ w83 ⟨xs71, v72, I73, i74, ⟨oc69, H, Ho70⟩, rfl, HS⟩
   rcases k_ with _ | k84
   · exact no_ H
   replace H : impl_wide.b1 x0 l1 (impl_wide.l1 x0 l1 k84) k84 xs71 i74 = some oc69 := H
   unfold impl_wide.b1 at H
   refine sr_ fun _ hK85 => ?_
   refine b_ bin_lss ?_
   refine dn_ hK85 (WC.seq fun _ hK86 => ?_)
   rcases eti_ H with ⟨c87, H⟩ | ⟨c87, H⟩
   · refine wn_ (dF c87) (WC.exit ?_)
     obtain rfl := os H
     exact wv_ iq X76 ⟨xs71, v72, I73, i74, Ho70, rfl, HS⟩
   refine wy_ (dT c87) (WC.skip (via_ hK86 (WC.seq fun _ hK88 => ?_)))
   refine WC.block (sr_ fun _ hK89 => ?_)
   refine mv_ ?_
   obtain ⟨⟨q90, q91⟩, H⟩ := if_some H
   obtain ⟨ad92, rfl⟩ := C_open (HS.getO 0 rfl) (lenpos q90 q91)
   refine v_ (ia_ underlying26 1 q90 q91) ?_
   obtain ⟨A93, c94, le95, HS⟩ := HS.slO 0 rfl i74 q90 q91
   refine v_ (Run.load rfl rfl underlying28 rfl (HS.getO 1 rfl)) ?_
   refine as_ ?_
   refine ad_ hK89 ?_
   refine rg_ (mv_ ?_)
   refine mv_ ?_
   refine v_ (fa_ underlying30) ?_
   refine v_ (lb_ (HS.mu 1 rfl) underlying26 rfl) ?_
   refine mv_ ?_
   obtain ⟨⟨q96, q97⟩, H⟩ := if_some H
   obtain ⟨ad98, rfl⟩ := C_open (HS.getO 3 rfl) (lenpos q96 q97)
   refine v_ (ia_ underlying26 1 q96 q97) ?_
   obtain ⟨A99, c100, le101, HS⟩ := HS.slO 3 rfl i74 q96 q97
   refine v_ (Run.load rfl rfl underlying28 rfl (HS.getO 1 rfl)) ?_
   refine mv_ ?_
   obtain ⟨t102, ha103, H⟩ := bind_some H
   refine cs_ HS func263 (impl_rowSum.runs k84 A93 c94 (x0.f1.getD i74.toNat []) A99 c100 (x0.f2.getD i74.toNat []) A1 c1 l1 t102 _ (HS.getO 2 rfl) le95 (HS.getO 0 rfl) le101 (HS.getO 6 rfl) hc1 ha103) (fun w104 HS => ?_)
   clear ha103
   refine WL.val rfl rfl (by decide) (Run.lit1 (z := (vi 0)) (vs := [vi t102]) rfl rfl rfl underlying28 (by kernel_rfl) (ble_ rfl) (ble_ rfl)) ?_
   have HS1 := HS.below (below_alloc (Below.refl _ _) (.cells #[vi t102] 3))
   obtain ⟨q105, H⟩ := if_some H
   refine WL.append HS1 0 rfl rfl rfl (by decide) rfl (vi 0) 8 underlying28 (by kernel_rfl) rfl (by decide) (by decide) rfl rfl [vi t102] rfl (lit_news _ _ _) (oneL rfl) (by omega) ((xs71 ++ [t102]).length) (by simp) (fun v106 w107 I108 hI109 HS => ?_)
   dsimp only [List.set] at HS
   replace HS := HS.deriveN (p := (rF kI (xs71 ++ [t102]) I108)) (fun W_ hN_ => reps_snoc hI109 hN_.1 (K_int _))
   clear HS1
   refine ad_ hK88 ?_
   refine rg_ (b_ bin_add64 ?_)
   refine mv_ ?_
   refine WL.done ?_
   exact wr_ k84 iq ⟨(xs71 ++ [t102]), v106, I108, (wrap64 (i74 + 1)), ⟨_, H, Ho70⟩, rfl, (St.pk HS [4, 5, 6] [0] rfl rfl)⟩
 refine on_ (dT c6) (mv_ ?_)
 refine on_ (dT c6) (ln_ underlying28 ?_)
 refine on_ (dT c6) (v_ (fa_ underlying30) ?_)
 refine on_ (dT c6) (v_ (lb_ (HS.mu 0 rfl) underlying3 rfl) ?_)
 refine on_ (dT c6) (b_ bin_neq ?_)
 refine on_ (dT c6) (mv_ ?_)
 rcases eti_ H with ⟨c7, H⟩ | ⟨c7, H⟩
 · refine off_ (c' := true) (qT c7) ?_
   refine off_ (c' := true) (qT c7) ?_
   refine off_ (c' := true) (qT c7) ?_
   refine on_ (dT c6) (v_ (Run.pickT rfl rfl (qT c7) rfl) ?_)
   refine v_ (Run.pickT rfl rfl (dT c6) rfl) ?_
   refine dn_ hK5 (wy_ rfl ?_)
   refine sr_ fun _ hK61 => ?_
   refine as_ ?_
   refine ad_ hK61 ?_
   obtain ⟨rfl, rfl⟩ := Prod.mk.inj (os H)
   exact rt2 Tryz.f212 rfl rfl rfl hR_ ⟨_, _, rfl, (Nat.le_refl _), (fun W_ _ => Kd.C_nil _ _), HS.b⟩
 refine on_ (qF c7) (mv_ ?_)
 refine on_ (qF c7) ?_
 obtain ⟨t8, ha9, H⟩ := bind_some H
 refine cs_ HS func157 (impl_allIn.calls A1 c1 l1 (-127) 127 t8 _ (HS.getO 2 rfl) hc1 ha9) (fun w10 HS => ?_)
 clear ha9
 refine on_ (qF c7) (nt_ ?_)
 refine on_ (dT c6) (v_ (Run.pickF rfl rfl (qF c7) rfl) ?_)
 refine v_ (Run.pickT rfl rfl (dT c6) rfl) ?_
 refine dn_ hK5 ?_
 rcases eti_ H with ⟨c11, H⟩ | ⟨c11, H⟩
 · refine wy_ (nB (bF c11)) (sr_ fun _ hK60 => ?_)
   refine as_ ?_
   refine ad_ hK60 ?_
   obtain ⟨rfl, rfl⟩ := Prod.mk.inj (os H)
   exact rt2 Tryz.f212 rfl rfl rfl hR_ ⟨_, _, rfl, (Nat.le_refl _), (fun W_ _ => Kd.C_nil _ _), HS.b⟩
 refine wn_ (nB c11) (WC.skip (via_ hK4 (sr_ fun _ hK12 => ?_)))
 refine WL.lit0 HS rfl rfl (by decide) rfl underlying28 (sz := 1) (by kernel_rfl) (fun v13 w14 HS => ?_)
 replace HS := HS.deriveN (p := (rF kI ([] : List Int) [])) (fun _ _ => Reps.none _ _)
 refine ad_ hK12 ?_
 refine WC.seq fun K15 hK15 => ?_
 refine sr_ fun _ hK16 => ?_
 refine v_ (fa_ underlying30) ?_
 refine v_ (lb_ (HS.mu 1 rfl) underlying26 rfl) ?_
 refine ln_ underlying26 ?_
 refine mv_ ?_
 refine dn_ hK16 (WC.block ?_)
 obtain ⟨G17, hG18, oc19, H, Ho20⟩ := open_G H
 let J25 := fun (xs21 : List Int) v22 I23 (i24 : Int) (E_ : Env) (W_ : World) => E_ = [(1, .slice A1 l1.length c1), (2, .pointer (some ⟨b2, 0, none⟩)), (6, v22), (27, .slice A0_1 x0.f1.length c0_1), (28, vi (x0.f1.length : Int)), (29, vi i24)] ∧ St (fun _ => True) w W_ [rowM w.heap.size 3 1 v22 xs21.length I23, boxM b2 #[vi x0.f0, .slice A0_1 x0.f1.length c0_1, .slice A0_2 x0.f2.length c0_2, vi x0.f3, vi x0.f4] 30] [(cF kS3 A0_1 x0.f1), (cF kS3 A0_2 x0.f2), (cF kI A1 l1)] [(rF kI xs21 I23)]
 have X26 : ∀ E_ W_, (∃ xs21 v22 I23 i24, G17 (xs21, i24) = some (r1, r2) ∧ J25 xs21 v22 I23 i24 E_ W_) → ∀ a, Fits a 47 E_ → K15 a W_ := by
   rintro E_ w27 ⟨xs21, v22, I23, i24, H, rfl, HS⟩
   rw [hG18] at H
   (try dsimp only at H)
   refine hK15 _ _ ?_
   refine sr_ fun _ hK28 => ?_
   refine fast_ ?_
   refine via_ hK28 (WC.ret ?_)
   obtain ⟨A29, c30, rfl⟩ := row_slice (HS.mu 0 rfl)
   have le31 := row_le (HS.mu 0 rfl)
   replace HS := HS.freezeN 0 (p := (cF kI A29 (xs21))) rfl (fun W_ hm_ h_ => row_C (by rfl) hm_ h_.1)
   dsimp only [List.eraseIdx] at HS
   obtain ⟨rfl, rfl⟩ := Prod.mk.inj (os H)
   exact fin2 Tryz.f212 rfl rfl rfl hR_ ⟨_, _, rfl, le31, (foot_fresh (HS.footN 0 rfl)), HS.b⟩
 clear hK15
 refine WC.loop (fun k_ E_ W_ => ∃ xs21 v22 I23 i24, (∃ o_, impl_wide.l0 x0 l1 k_ xs21 i24 = some o_ ∧ G17 o_ = some (r1, r2)) ∧ J25 xs21 v22 I23 i24 E_ W_) k ⟨([] : List Int), v13, ([]), 0, ⟨_, H, Ho20⟩, rfl, HS⟩ (sb rfl) ?_
 rintro k_ E_ w33 ⟨xs21, v22, I23, i24, ⟨oc19, H, Ho20⟩, rfl, HS⟩
 rcases k_ with _ | k34
 · exact no_ H
 replace H : impl_wide.b0 x0 l1 (impl_wide.l0 x0 l1 k34) k34 xs21 i24 = some oc19 := H
 unfold impl_wide.b0 at H
 refine sr_ fun _ hK35 => ?_
 refine b_ bin_lss ?_
 refine dn_ hK35 (WC.seq fun _ hK36 => ?_)
 rcases eti_ H with ⟨c37, H⟩ | ⟨c37, H⟩
 · refine wn_ (dF c37) (WC.exit ?_)
   obtain rfl := os H
   exact wv_ iq X26 ⟨xs21, v22, I23, i24, Ho20, rfl, HS⟩
 refine wy_ (dT c37) (WC.skip (via_ hK36 (WC.seq fun _ hK38 => ?_)))
 refine WC.block (sr_ fun _ hK39 => ?_)
 refine mv_ ?_
 obtain ⟨⟨q40, q41⟩, H⟩ := if_some H
 obtain ⟨ad42, rfl⟩ := C_open (HS.getO 0 rfl) (lenpos q40 q41)
 refine v_ (ia_ underlying26 1 q40 q41) ?_
 obtain ⟨A43, c44, le45, HS⟩ := HS.slO 0 rfl i24 q40 q41
 refine v_ (Run.load rfl rfl underlying28 rfl (HS.getO 1 rfl)) ?_
 refine as_ ?_
 refine ad_ hK39 ?_
 refine rg_ (mv_ ?_)
 refine mv_ ?_
 refine v_ (fa_ underlying30) ?_
 refine v_ (lb_ (HS.mu 1 rfl) underlying26 rfl) ?_
 refine mv_ ?_
 obtain ⟨⟨q46, q47⟩, H⟩ := if_some H
 obtain ⟨ad48, rfl⟩ := C_open (HS.getO 3 rfl) (lenpos q46 q47)
 refine v_ (ia_ underlying26 1 q46 q47) ?_
 obtain ⟨A49, c50, le51, HS⟩ := HS.slO 3 rfl i24 q46 q47
 refine v_ (Run.load rfl rfl underlying28 rfl (HS.getO 1 rfl)) ?_
 refine mv_ ?_
 obtain ⟨t52, ha53, H⟩ := bind_some H
 refine cs_ HS func263 (impl_rowSum.runs k34 A43 c44 (x0.f1.getD i24.toNat []) A49 c50 (x0.f2.getD i24.toNat []) A1 c1 l1 t52 _ (HS.getO 2 rfl) le45 (HS.getO 0 rfl) le51 (HS.getO 6 rfl) hc1 ha53) (fun w54 HS => ?_)
 clear ha53
 refine WL.val rfl rfl (by decide) (Run.lit1 (z := (vi 0)) (vs := [vi t52]) rfl rfl rfl underlying28 (by kernel_rfl) (ble_ rfl) (ble_ rfl)) ?_
 have HS1 := HS.below (below_alloc (Below.refl _ _) (.cells #[vi t52] 3))
 obtain ⟨q55, H⟩ := if_some H
 refine WL.append HS1 0 rfl rfl rfl (by decide) rfl (vi 0) 8 underlying28 (by kernel_rfl) rfl (by decide) (by decide) rfl rfl [vi t52] rfl (lit_news _ _ _) (oneL rfl) (by omega) ((xs21 ++ [t52]).length) (by simp) (fun v56 w57 I58 hI59 HS => ?_)
 dsimp only [List.set] at HS
 replace HS := HS.deriveN (p := (rF kI (xs21 ++ [t52]) I58)) (fun W_ hN_ => reps_snoc hI59 hN_.1 (K_int _))
 clear HS1
 refine ad_ hK38 ?_
 refine rg_ (b_ bin_add64 ?_)
 refine mv_ ?_
 refine WL.done ?_
 exact wr_ k34 iq ⟨(xs21 ++ [t52]), v56, I58, (wrap64 (i24 + 1)), ⟨_, H, Ho20⟩, rfl, (St.pk HS [4, 5, 6] [0] rfl rfl)⟩
def impl_narrow.b0 (x0 : S30) (l1 : List Int) (rec_ : (List Int) → Int → Option ((List Int) × Int)) (k26 : Nat) (xs13 : List Int) (i16 : Int) : Option ((List Int) × Int) := (if i16 < (l1.length : Int) then (if 0 ≤ i16 ∧ i16 < (l1.length : Int) then ((impl_MulShift.f k26 (l1.getD i16.toNat 0) x0.f3 x0.f4).bind fun t35 => ((impl_Clamp.f t35 127).bind fun t38 => (if (xs13.length) < 4294967296 then (rec_ (xs13 ++ [t38]) (wrap64 (i16 + 1))) else none))) else none) else (some (xs13, i16)))
def impl_narrow.l0 (x0 : S30) (l1 : List Int) : Nat → (List Int) → Int → Option ((List Int) × Int)
 | 0, _, _ => none
 | k + 1, xs13, i16 => impl_narrow.b0 x0 l1 (impl_narrow.l0 x0 l1 k) k xs13 i16
def impl_narrow.g (k : Nat) (x0 : S30) (l1 : List Int) : Option (List Int) := ((impl_narrow.l0 x0 l1 k ([] : List Int) 0).bind (fun oc24 => (some oc24.1)))
theorem impl_narrow.runs (k : Nat) (x0 : S30) (A0_1 : Option Addr) (c0_1 : Nat) (A0_2 : Option Addr) (c0_2 : Nat) (A1 : Option Addr) (c1 : Nat) (l1 : List Int) (r : List Int) (w : World) (hr0_1 : kS3.C w A0_1 x0.f1.length x0.f1) (hc0_1 : x0.f1.length ≤ c0_1) (hr0_2 : kS3.C w A0_2 x0.f2.length x0.f2) (hc0_2 : x0.f2.length ≤ c0_2) (hr1 : kI.C w A1 l1.length l1) (hc1 : l1.length ≤ c1) (H : impl_narrow.g k x0 l1 = some r) :
   Calls prog 245 #[.agg #[vi x0.f0, .slice A0_1 x0.f1.length c0_1, .slice A0_2 x0.f2.length c0_2, vi x0.f3, vi x0.f4], .slice A1 l1.length c1] w fun e w' => ∃ (A0_ : Option Addr) (c0_ : Nat), e = .returned (.slice A0_ r.length c0_) ∧ r.length ≤ c0_ ∧ Foot (cF kI A0_ r) w' (fun k_ => w.heap.size ≤ k_) ∧ Below w.heap.size w w' := by
 unfold impl_narrow.g at H
 have HS : St (fun _ => True) w w [] [(cF kS3 A0_1 x0.f1), (cF kS3 A0_2 x0.f2), (cF kI A1 l1)] [] := St.start (foot_cons (foot_C (Kd.heap_slice _ (Kd.heap_int _)) hr0_1) (foot_cons (foot_C (Kd.heap_slice _ (Kd.heap_int _)) hr0_2) (foot_cons (foot_C (Kd.heap_int _) hr1) foot_nil)))
 refine cw_ (n := 27) func245 fun R_ hR_ => ?_
 refine sr_ fun _ hK1 => ?_
 refine bo_ HS (fun b2 w3 hb2 HS => ?_)
 refine ad_ hK1 ?_
 refine sr_ fun _ hK4 => ?_
 refine WL.lit0 HS rfl rfl (by decide) rfl underlying28 (sz := 1) (by kernel_rfl) (fun v5 w6 HS => ?_)
 replace HS := HS.deriveN (p := (rF kI ([] : List Int) [])) (fun _ _ => Reps.none _ _)
 refine ad_ hK4 ?_
 refine WC.seq fun K7 hK7 => ?_
 refine sr_ fun _ hK8 => ?_
 refine mv_ ?_
 refine ln_ underlying28 ?_
 refine mv_ ?_
 refine dn_ hK8 (WC.block ?_)
 obtain ⟨G9, hG10, oc11, H, Ho12⟩ := open_G H
 let J17 := fun (xs13 : List Int) v14 I15 (i16 : Int) (E_ : Env) (W_ : World) => E_ = [(2, .pointer (some ⟨b2, 0, none⟩)), (5, v14), (9, .slice A1 l1.length c1), (10, vi (l1.length : Int)), (11, vi i16)] ∧ St (fun _ => True) w W_ [rowM w.heap.size 3 1 v14 xs13.length I15, boxM b2 #[vi x0.f0, .slice A0_1 x0.f1.length c0_1, .slice A0_2 x0.f2.length c0_2, vi x0.f3, vi x0.f4] 30] [(cF kS3 A0_1 x0.f1), (cF kS3 A0_2 x0.f2), (cF kI A1 l1)] [(rF kI xs13 I15)]
 have X18 : ∀ E_ W_, (∃ xs13 v14 I15 i16, G9 (xs13, i16) = some r ∧ J17 xs13 v14 I15 i16 E_ W_) → ∀ a, Fits a 27 E_ → K7 a W_ := by
   rintro E_ w19 ⟨xs13, v14, I15, i16, H, rfl, HS⟩
   rw [hG10] at H
   (try dsimp only at H)
   refine hK7 _ _ ?_
   refine sr_ fun _ hK20 => ?_
   refine mv_ ?_
   refine ad_ hK20 ?_
   refine WC.ret ?_
   obtain ⟨A21, c22, rfl⟩ := row_slice (HS.mu 0 rfl)
   have le23 := row_le (HS.mu 0 rfl)
   replace HS := HS.freezeN 0 (p := (cF kI A21 (xs13))) rfl (fun W_ hm_ h_ => row_C (by rfl) hm_ h_.1)
   dsimp only [List.eraseIdx] at HS
   obtain rfl := os H
   exact fin1 Tryz.f245 rfl rfl hR_ ⟨_, _, rfl, le23, (foot_fresh (HS.footN 0 rfl)), HS.b⟩
 clear hK7
 refine WC.loop (fun k_ E_ W_ => ∃ xs13 v14 I15 i16, (∃ o_, impl_narrow.l0 x0 l1 k_ xs13 i16 = some o_ ∧ G9 o_ = some r) ∧ J17 xs13 v14 I15 i16 E_ W_) k ⟨([] : List Int), v5, ([]), 0, ⟨_, H, Ho12⟩, rfl, HS⟩ (sb rfl) ?_
 rintro k_ E_ w25 ⟨xs13, v14, I15, i16, ⟨oc11, H, Ho12⟩, rfl, HS⟩
 rcases k_ with _ | k26
 · exact no_ H
 replace H : impl_narrow.b0 x0 l1 (impl_narrow.l0 x0 l1 k26) k26 xs13 i16 = some oc11 := H
 unfold impl_narrow.b0 at H
 refine sr_ fun _ hK27 => ?_
 refine b_ bin_lss ?_
 refine dn_ hK27 (WC.seq fun _ hK28 => ?_)
 rcases eti_ H with ⟨c29, H⟩ | ⟨c29, H⟩
 · refine wn_ (dF c29) (WC.exit ?_)
   obtain rfl := os H
   exact wv_ iq X18 ⟨xs13, v14, I15, i16, Ho12, rfl, HS⟩
 refine wy_ (dT c29) (WC.skip (via_ hK28 (WC.seq fun _ hK30 => ?_)))
 refine WC.block (sr_ fun _ hK31 => ?_)
 obtain ⟨⟨q32, q33⟩, H⟩ := if_some H
 obtain ⟨ad34, rfl⟩ := C_open (HS.getO 2 rfl) (lenpos q32 q33)
 refine v_ (ia_ underlying28 1 q32 q33) ?_
 refine v_ (Run.load rfl rfl underlying3 rfl (int_cell (HS.getO 2 rfl) i16 q32 q33)) ?_
 refine ad_ hK31 ?_
 refine rg_ (mv_ ?_)
 refine mv_ ?_
 refine v_ (fa_ underlying30) ?_
 refine v_ (lb_ (HS.mu 1 rfl) underlying3 rfl) ?_
 refine v_ (fa_ underlying30) ?_
 refine v_ (lb_ (HS.mu 1 rfl) underlying3 rfl) ?_
 obtain ⟨t35, ha36, H⟩ := bind_some H
 refine cs0_ HS func275 (impl_MulShift.calls k26 (l1.getD i16.toNat 0) x0.f3 x0.f4 t35 _ ha36) (fun w37 HS => ?_)
 clear ha36
 obtain ⟨t38, ha39, H⟩ := bind_some H
 refine cs_ HS func242 (impl_Clamp.calls t35 127 t38 _ ha39) (fun w40 HS => ?_)
 clear ha39
 refine WL.val rfl rfl (by decide) (Run.lit1 (z := (vi 0)) (vs := [vi t38]) rfl rfl rfl underlying28 (by kernel_rfl) (ble_ rfl) (ble_ rfl)) ?_
 have HS1 := HS.below (below_alloc (Below.refl _ _) (.cells #[vi t38] 3))
 obtain ⟨q41, H⟩ := if_some H
 refine WL.append HS1 0 rfl rfl rfl (by decide) rfl (vi 0) 8 underlying28 (by kernel_rfl) rfl (by decide) (by decide) rfl rfl [vi t38] rfl (lit_news _ _ _) (oneL rfl) (by omega) ((xs13 ++ [t38]).length) (by simp) (fun v42 w43 I44 hI45 HS => ?_)
 dsimp only [List.set] at HS
 replace HS := HS.deriveN (p := (rF kI (xs13 ++ [t38]) I44)) (fun W_ hN_ => reps_snoc hI45 hN_.1 (K_int _))
 clear HS1
 refine ad_ hK30 ?_
 refine rg_ (b_ bin_add64 ?_)
 refine mv_ ?_
 refine WL.done ?_
 exact wr_ k26 iq ⟨(xs13 ++ [t38]), v42, I44, (wrap64 (i16 + 1)), ⟨_, H, Ho12⟩, rfl, (St.pk HS [0, 1, 2] [0] rfl rfl)⟩
def impl_run_apply.g (k : Nat) (x0 : S157) (x1 : S30) (l2 : List Int) : Option ((List Int) × Bool) := ((impl_wide.g k (⟨x1.f0, x1.f1, x1.f2, x1.f3, x1.f4⟩ : S30) l2).bind fun t7 => (if t7.2 = true then (((some ()) : Option Unit).bind (fun oc32 => ((impl_narrow.g k (⟨x1.f0, x1.f1, x1.f2, x1.f3, x1.f4⟩ : S30) t7.1).bind fun t25 => (some (t25, true))))) else (some ([], false))))
theorem impl_run_apply.runs (k : Nat) (cs0 : List Value) (x0 : S157) (x1 : S30) (A1_1 : Option Addr) (c1_1 : Nat) (A1_2 : Option Addr) (c1_2 : Nat) (A2 : Option Addr) (c2 : Nat) (l2 : List Int) (r1 : List Int) (r2 : Bool) (w : World) (hk0 : k157.K w x0 cs0) (hr1_1 : kS3.C w A1_1 x1.f1.length x1.f1) (hc1_1 : x1.f1.length ≤ c1_1) (hr1_2 : kS3.C w A1_2 x1.f2.length x1.f2) (hc1_2 : x1.f2.length ≤ c1_2) (hr2 : kI.C w A2 l2.length l2) (hc2 : l2.length ≤ c2) (H : impl_run_apply.g k x0 x1 l2 = some (r1, r2)) :
   Calls prog 185 #[.agg cs0.toArray, .agg #[vi x1.f0, .slice A1_1 x1.f1.length c1_1, .slice A1_2 x1.f2.length c1_2, vi x1.f3, vi x1.f4], .slice A2 l2.length c2] w fun e w' => ∃ (A0_ : Option Addr) (c0_ : Nat), e = .returned (.tuple #[.slice A0_ r1.length c0_, .bool r2]) ∧ r1.length ≤ c0_ ∧ Foot (cF kI A0_ r1) w' (fun k_ => w.heap.size ≤ k_) ∧ Below w.heap.size w w' := by
 have el0 : cs0.length = 15 := k157.K_len hk0
 unfold impl_run_apply.g at H
 have HS : St (fun _ => True) w w [] [(kF k157 x0 cs0), (cF kS3 A1_1 x1.f1), (cF kS3 A1_2 x1.f2), (cF kI A2 l2)] [] := St.start (foot_cons (foot_K h157 hk0) (foot_cons (foot_C (Kd.heap_slice _ (Kd.heap_int _)) hr1_1) (foot_cons (foot_C (Kd.heap_slice _ (Kd.heap_int _)) hr1_2) (foot_cons (foot_C (Kd.heap_int _) hr2) foot_nil))))
 refine cw_ (n := 35) func185 fun R_ hR_ => ?_
 refine sr_ fun _ hK1 => ?_
 refine bo_ HS (fun b2 w3 hb2 HS => ?_)
 refine bo_ HS (fun b4 w5 hb4 HS => ?_)
 refine as_ ?_
 refine ad_ hK1 ?_
 refine sr_ fun _ hK6 => ?_
 refine v_ (ls_ (HS.mu 0 rfl) underlying30 part_all) ?_
 refine mv_ ?_
 obtain ⟨t7, ha8, H⟩ := bind_some H
 refine c_ func212 (impl_wide.runs k (⟨x1.f0, x1.f1, x1.f2, x1.f3, x1.f4⟩ : S30) A1_1 c1_1 A1_2 c1_2 A2 c2 l2 t7.1 t7.2 _ (HS.getO 1 rfl) hc1_1 (HS.getO 2 rfl) hc1_2 (HS.getO 3 rfl) hc2 ha8) ?_
 clear ha8
 rintro _ w9 ⟨A10, c11, rfl, le12, hf13, hb⟩
 replace HS := HS.newNs hb (foot_cons hf13 foot_nil)
 refine ⟨_, rfl, ?_⟩
 clear hb
 refine mv_ ?_
 refine v_ (Run.extract rfl rfl rfl) ?_
 refine v_ (Run.extract rfl rfl rfl) ?_
 refine as_ ?_
 refine ad_ hK6 ?_
 refine WC.seq fun _ hK14 => ?_
 refine sr_ fun _ hK15 => ?_
 refine mv_ ?_
 refine nt_ ?_
 refine dn_ hK15 ?_
 rcases eti_ H with ⟨c16, H⟩ | ⟨c16, H⟩
 · refine wy_ (nB (bF c16)) (sr_ fun _ hK34 => ?_)
   refine as_ ?_
   refine ad_ hK34 ?_
   obtain ⟨rfl, rfl⟩ := Prod.mk.inj (os H)
   exact rt2 Tryz.f185 rfl rfl rfl hR_ ⟨_, _, rfl, (Nat.le_refl _), (fun W_ _ => Kd.C_nil _ _), HS.b⟩
 refine wn_ (nB c16) (WC.skip (via_ hK14 (WC.seq fun K17 hK17 => ?_)))
 obtain ⟨G18, hG19, oc20, H, Ho21⟩ := open_G H
 have X22 : ∀ E_ W_, (E_ = [(4, .pointer (some ⟨b4, 0, none⟩)), (8, .slice A10 t7.1.length c11)] ∧ G18 () = some (r1, r2) ∧ St (fun _ => True) w W_ [boxM b4 #[vi x1.f0, .slice A1_1 x1.f1.length c1_1, .slice A1_2 x1.f2.length c1_2, vi x1.f3, vi x1.f4] 30, boxM b2 cs0.toArray 157] [(kF k157 x0 cs0), (cF kS3 A1_1 x1.f1), (cF kS3 A1_2 x1.f2), (cF kI A2 l2)] [(cF kI A10 t7.1)]) → ∀ a, Fits a 35 E_ → K17 a W_ := by
   rintro E_ w23 ⟨rfl, H, HS⟩
   rw [hG19] at H
   (try dsimp only at H)
   refine hK17 _ _ ?_
   refine sr_ fun _ hK24 => ?_
   refine v_ (ls_ (HS.mu 0 rfl) underlying30 part_all) ?_
   refine mv_ ?_
   obtain ⟨t25, ha26, H⟩ := bind_some H
   refine c_ func245 (impl_narrow.runs k (⟨x1.f0, x1.f1, x1.f2, x1.f3, x1.f4⟩ : S30) A1_1 c1_1 A1_2 c1_2 A10 c11 t7.1 t25 _ (HS.getO 1 rfl) hc1_1 (HS.getO 2 rfl) hc1_2 (HS.getN 0 rfl) le12 ha26) ?_
   clear ha26
   rintro _ w27 ⟨A28, c29, rfl, le30, hf31, hb⟩
   replace HS := HS.newNs hb (foot_cons hf31 foot_nil)
   refine ⟨_, rfl, ?_⟩
   clear hb
   refine as_ ?_
   refine ad_ hK24 ?_
   obtain ⟨rfl, rfl⟩ := Prod.mk.inj (os H)
   exact rt2 Tryz.f185 rfl rfl rfl hR_ ⟨_, _, rfl, le30, (foot_fresh (HS.footN 0 rfl)), HS.b⟩
 clear hK17
 refine sr_ fun _ hK33 => ?_
 refine v_ (fa_ underlying157) ?_
 refine v_ (lb_ (HS.mu 1 rfl) underlying155 (at157_14 (HS.aO 0 rfl)).nilP) ?_
 refine v_ (Run.neNilP rfl rfl rfl underlying155) ?_
 refine dn_ hK33 (wn_ rfl ?_)
 refine WC.skip ?_
 obtain rfl := os H
 exact wv_ iq X22 ⟨rfl, Ho21, HS⟩
def impl_run_head.g (k : Nat) (x0 : S157) : Option Int := (if x0.f0.f1 ≠ 0 then (some (wrap64 (Int.tdiv x0.f0.f0 x0.f0.f1))) else none)
theorem impl_run_head.runs (k : Nat) (cs0 : List Value) (x0 : S157) (r : Int) (w : World) (hk0 : k157.K w x0 cs0) (H : impl_run_head.g k x0 = some r) :
   Calls prog 244 #[.agg cs0.toArray] w fun e w' => e = .returned (vi r) ∧ Below w.heap.size w w' := by
 have el0 : cs0.length = 15 := k157.K_len hk0
 unfold impl_run_head.g at H
 have HS : St (fun _ => True) w w [] [(kF k157 x0 cs0)] [] := St.start (foot_cons (foot_K h157 hk0) foot_nil)
 refine cw_ (n := 10) func244 fun R_ hR_ => ?_
 refine sr_ fun _ hK1 => ?_
 refine bo_ HS (fun b2 w3 hb2 HS => ?_)
 refine ad_ hK1 ?_
 refine sr_ fun _ hK4 => ?_
 refine v_ (fa_ underlying157) ?_
 refine v_ (fa_ underlying34) ?_
 refine v_ (lb_ (HS.mu 0 rfl) underlying3 (at157_0 (HS.aO 0 rfl)).int) ?_
 refine v_ (fa_ underlying157) ?_
 refine v_ (fa_ underlying34) ?_
 refine v_ (lb_ (HS.mu 0 rfl) underlying3 (at157_1 (HS.aO 0 rfl)).int) ?_
 obtain ⟨z5, H⟩ := if_some H
 refine b_ (bin_quo64 z5) ?_
 refine ad_ hK4 ?_
 obtain rfl := os H
 exact rt1 Tryz.f244 rfl rfl hR_ ⟨rfl, HS.b⟩
def impl_TurnAll.b0 (x0 : S32) (a1 : Int) (a2 : Int) (l3 : List Int) (rec_ : (List Int) → Int → Option (((List Int) × Bool) ⊕ ((List Int) × Int))) (k60 : Nat) (xs47 : List Int) (i50 : Int) : Option (((List Int) × Bool) ⊕ ((List Int) × Int)) := (if i50 < (l3.length : Int) then (if a2 ≠ 0 then (if 0 ≤ i50 ∧ i50 < (l3.length : Int) then (if 0 ≤ (wrap64 (i50 + 1)) ∧ (wrap64 (i50 + 1)) < (l3.length : Int) then (if 0 ≤ (wrap64 (Int.tdiv (Int.tmod i50 a2) 2)) ∧ (wrap64 (Int.tdiv (Int.tmod i50 a2) 2)) < ((x0.f0.getD a1.toNat []).length : Int) then (if 0 ≤ (wrap64 (Int.tdiv (Int.tmod i50 a2) 2)) ∧ (wrap64 (Int.tdiv (Int.tmod i50 a2) 2)) < ((x0.f1.getD a1.toNat []).length : Int) then ((impl_turnable.f (l3.getD i50.toNat 0) (l3.getD (wrap64 (i50 + 1)).toNat 0) ((x0.f0.getD a1.toNat []).getD (wrap64 (Int.tdiv (Int.tmod i50 a2) 2)).toNat 0) ((x0.f1.getD a1.toNat []).getD (wrap64 (Int.tdiv (Int.tmod i50 a2) 2)).toNat 0)).bind fun t81 => (if t81 = true then ((impl_Turn.f k60 (l3.getD i50.toNat 0) (l3.getD (wrap64 (i50 + 1)).toNat 0) ((x0.f0.getD a1.toNat []).getD (wrap64 (Int.tdiv (Int.tmod i50 a2) 2)).toNat 0) ((x0.f1.getD a1.toNat []).getD (wrap64 (Int.tdiv (Int.tmod i50 a2) 2)).toNat 0)).bind fun t87 => (if (xs47.length) < 4294967296 then (rec_ (xs47 ++ [t87.1, t87.2]) (wrap64 (i50 + 2))) else none)) else (some (Sum.inl ([], false))))) else none) else none) else none) else none) else none) else (some (Sum.inr (xs47, i50))))
def impl_TurnAll.l0 (x0 : S32) (a1 : Int) (a2 : Int) (l3 : List Int) : Nat → (List Int) → Int → Option (((List Int) × Bool) ⊕ ((List Int) × Int))
 | 0, _, _ => none
 | k + 1, xs47, i50 => impl_TurnAll.b0 x0 a1 a2 l3 (impl_TurnAll.l0 x0 a1 a2 l3 k) k xs47 i50
def impl_TurnAll.g (k : Nat) (x0 : S32) (a1 : Int) (a2 : Int) (l3 : List Int) : Option ((List Int) × Bool) := ((impl_in.f a2 2 8).bind fun t6 => (if t6 = true then (if (Int.tmod a2 2) = 1 then (some ([], false)) else (if a2 ≠ 0 then (if (Int.tmod (l3.length : Int) a2) = 0 then (if (l3.length : Int) > 8 then (some ([], false)) else ((impl_in.f a1 0 (wrap64 ((if (x0.f1.length : Int) < (x0.f0.length : Int) then (x0.f1.length : Int) else (x0.f0.length : Int)) - 1))).bind fun t16 => (if t16 = true then (if 0 ≤ a1 ∧ a1 < (x0.f0.length : Int) then (if 0 ≤ a1 ∧ a1 < (x0.f1.length : Int) then (if ((x0.f0.getD a1.toNat []).length : Int) = (wrap64 (Int.tdiv a2 2)) then (if ((x0.f1.getD a1.toNat []).length : Int) = (wrap64 (Int.tdiv a2 2)) then ((impl_TurnAll.l0 x0 a1 a2 l3 k ([] : List Int) 0).bind (fun oc58 => match oc58 with | .inl r_ => some r_ | .inr ⟨xs47, i50⟩ => (some (xs47, true)))) else (some ([], false))) else (some ([], false))) else none) else none) else (some ([], false))))) else (some ([], false))) else none)) else (some ([], false))))
theorem impl_TurnAll.runs (k : Nat) (x0 : S32) (A0_0 : Option Addr) (c0_0 : Nat) (A0_1 : Option Addr) (c0_1 : Nat) (a1 : Int) (a2 : Int) (A3 : Option Addr) (c3 : Nat) (l3 : List Int) (r1 : List Int) (r2 : Bool) (w : World) (hr0_0 : kS3.C w A0_0 x0.f0.length x0.f0) (hc0_0 : x0.f0.length ≤ c0_0) (hr0_1 : kS3.C w A0_1 x0.f1.length x0.f1) (hc0_1 : x0.f1.length ≤ c0_1) (hr3 : kI.C w A3 l3.length l3) (hc3 : l3.length ≤ c3) (H : impl_TurnAll.g k x0 a1 a2 l3 = some (r1, r2)) :
   Calls prog 243 #[.agg #[.slice A0_0 x0.f0.length c0_0, .slice A0_1 x0.f1.length c0_1], vi a1, vi a2, .slice A3 l3.length c3] w fun e w' => ∃ (A0_ : Option Addr) (c0_ : Nat), e = .returned (.tuple #[.slice A0_ r1.length c0_, .bool r2]) ∧ r1.length ≤ c0_ ∧ Foot (cF kI A0_ r1) w' (fun k_ => w.heap.size ≤ k_) ∧ Below w.heap.size w w' := by
 unfold impl_TurnAll.g at H
 have HS : St (fun _ => True) w w [] [(cF kS3 A0_0 x0.f0), (cF kS3 A0_1 x0.f1), (cF kI A3 l3)] [] := St.start (foot_cons (foot_C (Kd.heap_slice _ (Kd.heap_int _)) hr0_0) (foot_cons (foot_C (Kd.heap_slice _ (Kd.heap_int _)) hr0_1) (foot_cons (foot_C (Kd.heap_int _) hr3) foot_nil)))
 refine cw_ (n := 129) func243 fun R_ hR_ => ?_
 refine sr_ fun _ hK1 => ?_
 refine bo_ HS (fun b2 w3 hb2 HS => ?_)
 refine as_ ?_
 refine ad_ hK1 ?_
 clear hK1
 exact by (
 refine WC.seq fun _ hK4 => ?_
 refine sr_ fun _ hK5 => ?_
 refine mv_ ?_
 obtain ⟨t6, ha7, H⟩ := bind_some H
 refine cs0_ HS func139 (impl_in.calls a2 2 8 t6 _ ha7) (fun w8 HS => ?_)
 clear ha7
 refine nt_ ?_
 refine mv_ ?_
 exact by (
 rcases eti_ H with ⟨c9, H⟩ | ⟨c9, H⟩
 · refine off_ (c' := true) (nB (bF c9)) ?_
   refine WL.know 20 (nB (bF c9)) ?_
   refine fast_ ?_
   refine via_ hK5 (wy_ rfl ?_)
   clear hK5
   refine sr_ fun _ hK100 => ?_
   refine as_ ?_
   exact by (
   refine ad_ hK100 ?_
   clear hK100
   obtain ⟨rfl, rfl⟩ := Prod.mk.inj (os H)
   exact rt2 Tryz.f243 rfl rfl rfl hR_ ⟨_, _, rfl, (Nat.le_refl _), (fun W_ _ => Kd.C_nil _ _), HS.b⟩ )
 refine on_ (nB c9) (mv_ ?_)
 refine on_ (nB c9) (v_ (Run.bin rfl rfl rfl (bin_rem (show (2 : Int) ≠ 0 by decide))) ?_)
 refine on_ (nB c9) (b_ bin_eql ?_)
 refine v_ (Run.pickF rfl rfl (nB c9) rfl) ?_
 exact by (
 refine mv_ ?_
 rcases ite_ H with ⟨c10, H⟩ | ⟨c10, H⟩
 · refine off_ (c' := true) (eT c10) ?_
   refine WL.know 25 (eT c10) ?_
   refine fast_ ?_
   refine via_ hK5 (wy_ rfl ?_)
   clear hK5
   refine sr_ fun _ hK11 => ?_
   exact by (
   refine as_ ?_
   refine ad_ hK11 ?_
   clear hK11
   obtain ⟨rfl, rfl⟩ := Prod.mk.inj (os H)
   exact rt2 Tryz.f243 rfl rfl rfl hR_ ⟨_, _, rfl, (Nat.le_refl _), (fun W_ _ => Kd.C_nil _ _), HS.b⟩ )
 refine on_ (eF c10) (mv_ ?_)
 refine on_ (eF c10) (ln_ underlying28 ?_)
 refine on_ (eF c10) (mv_ ?_)
 exact by (
 refine on_ (eF c10) ?_
 obtain ⟨z12, H⟩ := if_some H
 refine b_ (bin_rem z12) ?_
 refine on_ (eF c10) (b_ bin_neq ?_)
 refine v_ (Run.pickF rfl rfl (eF c10) rfl) ?_
 refine mv_ ?_
 rcases eti_ H with ⟨c13, H⟩ | ⟨c13, H⟩
 · refine off_ (c' := true) (qT c13) ?_
   exact by (
   refine WL.know 32 (qT c13) ?_
   refine fast_ ?_
   refine via_ hK5 (wy_ rfl ?_)
   clear hK5
   refine sr_ fun _ hK99 => ?_
   refine as_ ?_
   refine ad_ hK99 ?_
   clear hK99
   obtain ⟨rfl, rfl⟩ := Prod.mk.inj (os H)
   exact rt2 Tryz.f243 rfl rfl rfl hR_ ⟨_, _, rfl, (Nat.le_refl _), (fun W_ _ => Kd.C_nil _ _), HS.b⟩ )
 exact by (
 refine on_ (qF c13) (mv_ ?_)
 refine on_ (qF c13) (ln_ underlying28 ?_)
 refine on_ (qF c13) (b_ bin_gtr ?_)
 refine v_ (Run.pickF rfl rfl (qF c13) rfl) ?_
 refine mv_ ?_
 rcases ite_ H with ⟨c14, H⟩ | ⟨c14, H⟩
 · refine off_ (c' := true) (dT c14) ?_
   refine WL.know 37 (dT c14) ?_
   exact by (
   refine fast_ ?_
   refine via_ hK5 (wy_ rfl ?_)
   clear hK5
   refine sr_ fun _ hK15 => ?_
   refine as_ ?_
   refine ad_ hK15 ?_
   clear hK15
   obtain ⟨rfl, rfl⟩ := Prod.mk.inj (os H)
   exact rt2 Tryz.f243 rfl rfl rfl hR_ ⟨_, _, rfl, (Nat.le_refl _), (fun W_ _ => Kd.C_nil _ _), HS.b⟩ )
 exact by (
 refine on_ (dF c14) (mv_ ?_)
 refine on_ (dF c14) (v_ (fa_ underlying32) ?_)
 refine on_ (dF c14) (v_ (lb_ (HS.mu 0 rfl) underlying26 rfl) ?_)
 refine on_ (dF c14) (ln_ underlying26 ?_)
 refine on_ (dF c14) (v_ (fa_ underlying32) ?_)
 refine on_ (dF c14) (v_ (lb_ (HS.mu 0 rfl) underlying26 rfl) ?_)
 refine on_ (dF c14) (ln_ underlying26 ?_)
 refine on_ (dF c14) (v_ (Run.min2 rfl rfl rfl) ?_)
 exact by (
 refine on_ (dF c14) (b_ bin_sub64 ?_)
 refine on_ (dF c14) ?_
 obtain ⟨t16, ha17, H⟩ := bind_some H
 refine cs0_ HS func139 (impl_in.calls a1 0 (wrap64 ((if (x0.f1.length : Int) < (x0.f0.length : Int) then (x0.f1.length : Int) else (x0.f0.length : Int)) - 1)) t16 _ ha17) (fun w18 HS => ?_)
 clear ha17
 refine on_ (dF c14) (nt_ ?_)
 refine v_ (Run.pickF rfl rfl (dF c14) rfl) ?_
 refine dn_ hK5 ?_
 exact by (
 clear hK5
 rcases eti_ H with ⟨c19, H⟩ | ⟨c19, H⟩
 · refine wy_ (nB (bF c19)) (sr_ fun _ hK98 => ?_)
   refine as_ ?_
   refine ad_ hK98 ?_
   clear hK98
   obtain ⟨rfl, rfl⟩ := Prod.mk.inj (os H)
   exact rt2 Tryz.f243 rfl rfl rfl hR_ ⟨_, _, rfl, (Nat.le_refl _), (fun W_ _ => Kd.C_nil _ _), HS.b⟩
 exact by (
 refine wn_ (nB c19) (WC.skip (via_ hK4 (WC.seq fun _ hK20 => ?_)))
 clear hK4
 refine WC.drawS HS [] rfl rfl (fun w21 HS => ?_)
 have HB := Below.refl w21.heap.size w21
 have HSW := HS
 refine df_ 0 underlying32 ?_
 refine dm_ 2 ?_
 refine df_ 5 underlying32 ?_
 exact by (
 refine dm_ 7 ?_
 refine bl_ 1 HS (Below.refl _ _) 0 underlying26 rfl ?_
 obtain ⟨⟨q22, q23⟩, H⟩ := if_some H
 obtain ⟨ad24, rfl⟩ := C_open (HS.getO 0 rfl) (lenpos q22 q23)
 refine di_ 3 underlying26 1 q22 q23 ?_
 obtain ⟨A25, c26, le27, HS⟩ := HS.slO 0 rfl a1 q22 q23
 replace HSW := HS
 refine dt_ 4 (Below.refl _ _) (fun w_ hw_ => Run.load rfl rfl underlying28 rfl ((HS.below hw_).getO 1 rfl)) ?_
 exact by (
 refine dp_ 10 (fun _ => Run.assign rfl rfl) ?_
 refine bl_ 6 HS (Below.refl _ _) 0 underlying26 rfl ?_
 obtain ⟨⟨q28, q29⟩, H⟩ := if_some H
 obtain ⟨ad30, rfl⟩ := C_open (HS.getO 3 rfl) (lenpos q28 q29)
 refine di_ 8 underlying26 1 q28 q29 ?_
 obtain ⟨A31, c32, le33, HS⟩ := HS.slO 3 rfl a1 q28 q29
 replace HSW := HS
 refine dt_ 9 (Below.refl _ _) (fun w_ hw_ => Run.load rfl rfl underlying28 rfl ((HS.below hw_).getO 1 rfl)) ?_
 exact by (
 refine dp_ 11 (fun _ => Run.assign rfl rfl) ?_
 refine dd_ ?_
 clear HB HSW
 refine via_ hK20 (WC.seq fun _ hK34 => ?_)
 clear hK20
 refine sr_ fun _ hK35 => ?_
 refine mv_ ?_
 refine ln_ underlying28 ?_
 exact by (
 refine mv_ ?_
 refine v_ (Run.bin rfl rfl rfl (bin_quo64 (show (2 : Int) ≠ 0 by decide))) ?_
 refine b_ bin_neq ?_
 refine mv_ ?_
 rcases eti_ H with ⟨c36, H⟩ | ⟨c36, H⟩
 · refine off_ (c' := true) (qT c36) ?_
   refine WL.know 65 (qT c36) ?_
   refine fast_ ?_
   exact by (
   refine via_ hK35 (wy_ rfl ?_)
   clear hK35
   refine sr_ fun _ hK97 => ?_
   refine as_ ?_
   refine ad_ hK97 ?_
   clear hK97
   obtain ⟨rfl, rfl⟩ := Prod.mk.inj (os H)
   exact rt2 Tryz.f243 rfl rfl rfl hR_ ⟨_, _, rfl, (Nat.le_refl _), (fun W_ _ => Kd.C_nil _ _), HS.b⟩ )
 exact by (
 refine on_ (qF c36) (mv_ ?_)
 refine on_ (qF c36) (ln_ underlying28 ?_)
 refine on_ (qF c36) (mv_ ?_)
 refine on_ (qF c36) (v_ (Run.bin rfl rfl rfl (bin_quo64 (show (2 : Int) ≠ 0 by decide))) ?_)
 refine on_ (qF c36) (b_ bin_neq ?_)
 refine v_ (Run.pickF rfl rfl (qF c36) rfl) ?_
 refine dn_ hK35 ?_
 clear hK35
 exact by (
 rcases eti_ H with ⟨c37, H⟩ | ⟨c37, H⟩
 · refine wy_ (qT c37) (sr_ fun _ hK96 => ?_)
   refine as_ ?_
   refine ad_ hK96 ?_
   clear hK96
   obtain ⟨rfl, rfl⟩ := Prod.mk.inj (os H)
   exact rt2 Tryz.f243 rfl rfl rfl hR_ ⟨_, _, rfl, (Nat.le_refl _), (fun W_ _ => Kd.C_nil _ _), HS.b⟩
 refine wn_ (qF c37) (WC.skip (via_ hK34 (sr_ fun _ hK38 => ?_)))
 exact by (
 clear hK34
 refine WL.lit0 HS rfl rfl (by decide) rfl underlying28 (sz := 1) (by kernel_rfl) (fun v39 w40 HS => ?_)
 replace HS := HS.deriveN (p := (rF kI ([] : List Int) [])) (fun _ _ => Reps.none _ _)
 refine ad_ hK38 ?_
 clear hK38
 refine WC.seq fun K41 hK41 => ?_
 refine sr_ fun _ hK42 => ?_
 refine ad_ hK42 ?_
 exact by (
 clear hK42
 refine WC.block ?_
 obtain ⟨G43, hG44, oc45, H, Ho46⟩ := open_G H
 let J51 := fun (xs47 : List Int) v48 I49 (i50 : Int) (E_ : Env) (W_ : World) => E_ = [(2, vi a2), (3, .slice A3 l3.length c3), (10, .slice A25 ((x0.f0.getD a1.toNat []).length) c26), (11, .slice A31 ((x0.f1.getD a1.toNat []).length) c32), (12, v48), (13, vi i50)] ∧ St (fun _ => True) w W_ [rowM w.heap.size 3 1 v48 xs47.length I49, boxM b2 #[.slice (some ad24) x0.f0.length c0_0, .slice (some ad30) x0.f1.length c0_1] 32] [(cF kI A31 (x0.f1.getD a1.toNat [])), (cF kI A25 (x0.f0.getD a1.toNat [])), (cF kS3 (some ad24) x0.f0), (cF kS3 (some ad30) x0.f1), (cF kI A3 l3)] [(rF kI xs47 I49)]
 have X52 : ∀ E_ W_, (∃ xs47 v48 I49 i50, G43 (Sum.inr (xs47, i50)) = some (r1, r2) ∧ J51 xs47 v48 I49 i50 E_ W_) → ∀ a, Fits a 129 E_ → K41 a W_ := by
   rintro E_ w53 ⟨xs47, v48, I49, i50, H, rfl, HS⟩
   rw [hG44] at H
   (try dsimp only at H)
   exact by (
   refine hK41 _ _ ?_
   clear hK41
   refine sr_ fun _ hK54 => ?_
   refine fast_ ?_
   refine via_ hK54 (WC.ret ?_)
   clear hK54
   obtain ⟨A55, c56, rfl⟩ := row_slice (HS.mu 0 rfl)
   have le57 := row_le (HS.mu 0 rfl)
   exact by (
   replace HS := HS.freezeN 0 (p := (cF kI A55 (xs47))) rfl (fun W_ hm_ h_ => row_C (by rfl) hm_ h_.1)
   dsimp only [List.eraseIdx] at HS
   obtain ⟨rfl, rfl⟩ := Prod.mk.inj (os H)
   exact fin2 Tryz.f243 rfl rfl rfl hR_ ⟨_, _, rfl, le57, (foot_fresh (HS.footN 0 rfl)), HS.b⟩ ))
 clear hK41
 refine WC.loop (fun k_ E_ W_ => ∃ xs47 v48 I49 i50, (∃ o_, impl_TurnAll.l0 x0 a1 a2 l3 k_ xs47 i50 = some o_ ∧ G43 o_ = some (r1, r2)) ∧ J51 xs47 v48 I49 i50 E_ W_) k ⟨([] : List Int), v39, ([]), 0, ⟨_, H, Ho46⟩, rfl, (St.pk HS [0, 2, 4, 5, 6] [0] rfl rfl)⟩ (sb rfl) ?_
 rintro k_ E_ w59 ⟨xs47, v48, I49, i50, ⟨oc45, H, Ho46⟩, rfl, HS⟩
 rcases k_ with _ | k60
 · exact no_ H
 exact by (
 replace H : impl_TurnAll.b0 x0 a1 a2 l3 (impl_TurnAll.l0 x0 a1 a2 l3 k60) k60 xs47 i50 = some oc45 := H
 unfold impl_TurnAll.b0 at H
 refine WC.seq fun _ hK61 => ?_
 refine sr_ fun _ hK62 => ?_
 refine mv_ ?_
 refine mv_ ?_
 refine ln_ underlying28 ?_
 refine b_ bin_lss ?_
 exact by (
 refine dn_ hK62 ?_
 clear hK62
 rcases eti_ H with ⟨c63, H⟩ | ⟨c63, H⟩
 · refine wn_ (dF c63) (WC.exit ?_)
   obtain rfl := os H
   exact wv_ iq X52 ⟨xs47, v48, I49, i50, Ho46, rfl, HS⟩
 refine wy_ (dT c63) (WC.skip (via_ hK61 (WC.seq fun _ hK64 => ?_)))
 clear hK61
 exact by (
 refine WC.block (sr_ fun _ hK65 => ?_)
 refine mv_ ?_
 refine mv_ ?_
 obtain ⟨z66, H⟩ := if_some H
 refine b_ (bin_rem z66) ?_
 refine v_ (Run.bin rfl rfl rfl (bin_quo64 (show (2 : Int) ≠ 0 by decide))) ?_
 refine ad_ hK65 ?_
 clear hK65
 exact by (
 refine WC.seq fun _ hK67 => ?_
 refine WC.seq fun _ hK68 => ?_
 refine WC.drawS HS [] rfl rfl (fun w69 HS => ?_)
 have HB := Below.refl w69.heap.size w69
 have HSW := HS
 refine dm_ 0 ?_
 refine dm_ 1 ?_
 obtain ⟨⟨q70, q71⟩, H⟩ := if_some H
 exact by (
 obtain ⟨ad72, rfl⟩ := C_open (HS.getO 4 rfl) (lenpos q70 q71)
 refine di_ 2 underlying28 1 q70 q71 ?_
 refine dm_ 4 ?_
 refine dm_ 5 ?_
 refine dp_ 6 (fun _ => Run.bin rfl rfl rfl bin_add64) ?_
 obtain ⟨⟨q73, q74⟩, H⟩ := if_some H
 refine di_ 7 underlying28 1 q73 q74 ?_
 refine dm_ 9 ?_
 exact by (
 refine dm_ 10 ?_
 obtain ⟨⟨q75, q76⟩, H⟩ := if_some H
 obtain ⟨ad77, rfl⟩ := C_open (HS.getO 1 rfl) (lenpos q75 q76)
 refine di_ 11 underlying28 1 q75 q76 ?_
 refine dm_ 13 ?_
 refine dm_ 14 ?_
 obtain ⟨⟨q78, q79⟩, H⟩ := if_some H
 obtain ⟨ad80, rfl⟩ := C_open (HS.getO 0 rfl) (lenpos q78 q79)
 exact by (
 refine di_ 15 underlying28 1 q78 q79 ?_
 refine dt_ 3 (Below.refl _ _) (fun w_ hw_ => Run.load rfl rfl underlying3 rfl (int_cell ((HS.below hw_).getO 4 rfl) i50 q70 q71)) ?_
 refine dt_ 8 (Below.refl _ _) (fun w_ hw_ => Run.load rfl rfl underlying3 rfl (int_cell ((HS.below hw_).getO 4 rfl) (wrap64 (i50 + 1)) q73 q74)) ?_
 refine dt_ 12 (Below.refl _ _) (fun w_ hw_ => Run.load rfl rfl underlying3 rfl (int_cell ((HS.below hw_).getO 1 rfl) (wrap64 (Int.tdiv (Int.tmod i50 a2) 2)) q75 q76)) ?_
 refine dt_ 16 (Below.refl _ _) (fun w_ hw_ => Run.load rfl rfl underlying3 rfl (int_cell ((HS.below hw_).getO 0 rfl) (wrap64 (Int.tdiv (Int.tmod i50 a2) 2)) q78 q79)) ?_
 obtain ⟨t81, ha82, H⟩ := bind_some H
 refine dcs0_ HS HB 17 (w_none rfl) func273 (impl_turnable.calls (l3.getD i50.toNat 0) (l3.getD (wrap64 (i50 + 1)).toNat 0) ((x0.f0.getD a1.toNat []).getD (wrap64 (Int.tdiv (Int.tmod i50 a2) 2)).toNat 0) ((x0.f1.getD a1.toNat []).getD (wrap64 (Int.tdiv (Int.tmod i50 a2) 2)).toNat 0) t81 _ ha82) (fun w83 HS HB => ?_)
 clear ha82
 exact by (
 refine dp_ 18 (fun _ => Run.not rfl rfl) ?_
 refine dd_ ?_
 clear HB HSW
 refine via_ hK68 ?_
 clear hK68
 rcases eti_ H with ⟨c84, H⟩ | ⟨c84, H⟩
 · refine wy_ (nB (bF c84)) (sr_ fun _ hK95 => ?_)
   refine as_ ?_
   exact by (
   refine ad_ hK95 ?_
   clear hK95
   refine WC.ret ?_
   obtain rfl := os H
   rw [hG44] at Ho46
   replace H : some _ = some _ := Ho46
   obtain ⟨rfl, rfl⟩ := Prod.mk.inj (os H)
   exact fin2 Tryz.f243 rfl rfl rfl hR_ ⟨_, _, rfl, (Nat.le_refl _), (fun W_ _ => Kd.C_nil _ _), HS.b⟩ )
 exact by (
 refine wn_ (nB c84) (WC.skip (via_ hK67 (WC.seq fun _ hK85 => ?_)))
 clear hK67
 refine WC.drawS HS [] rfl rfl (fun w86 HS => ?_)
 have HB := Below.refl w86.heap.size w86
 have HSW := HS
 refine dm_ 0 ?_
 refine dm_ 1 ?_
 refine di_ 2 underlying28 1 q70 q71 ?_
 exact by (
 refine dm_ 4 ?_
 refine dm_ 5 ?_
 refine dp_ 6 (fun _ => Run.bin rfl rfl rfl bin_add64) ?_
 refine di_ 7 underlying28 1 q73 q74 ?_
 refine dm_ 9 ?_
 refine dm_ 10 ?_
 refine di_ 11 underlying28 1 q75 q76 ?_
 refine dm_ 13 ?_
 exact by (
 refine dm_ 14 ?_
 refine di_ 15 underlying28 1 q78 q79 ?_
 refine dt_ 3 (Below.refl _ _) (fun w_ hw_ => Run.load rfl rfl underlying3 rfl (int_cell ((HS.below hw_).getO 4 rfl) i50 q70 q71)) ?_
 refine dt_ 8 (Below.refl _ _) (fun w_ hw_ => Run.load rfl rfl underlying3 rfl (int_cell ((HS.below hw_).getO 4 rfl) (wrap64 (i50 + 1)) q73 q74)) ?_
 refine dt_ 12 (Below.refl _ _) (fun w_ hw_ => Run.load rfl rfl underlying3 rfl (int_cell ((HS.below hw_).getO 1 rfl) (wrap64 (Int.tdiv (Int.tmod i50 a2) 2)) q75 q76)) ?_
 refine dt_ 16 (Below.refl _ _) (fun w_ hw_ => Run.load rfl rfl underlying3 rfl (int_cell ((HS.below hw_).getO 0 rfl) (wrap64 (Int.tdiv (Int.tmod i50 a2) 2)) q78 q79)) ?_
 obtain ⟨t87, ha88, H⟩ := bind_some H
 refine dcs_ HS HB 17 (w_none rfl) func274 (impl_Turn.calls k60 (l3.getD i50.toNat 0) (l3.getD (wrap64 (i50 + 1)).toNat 0) ((x0.f0.getD a1.toNat []).getD (wrap64 (Int.tdiv (Int.tmod i50 a2) 2)).toNat 0) ((x0.f1.getD a1.toNat []).getD (wrap64 (Int.tdiv (Int.tmod i50 a2) 2)).toNat 0) t87.1 t87.2 _ ha88) (fun w89 HS HB => ?_)
 exact by (
 clear ha88
 refine dm_ 18 ?_
 refine dp_ 19 (fun _ => Run.extract rfl rfl rfl) ?_
 refine dp_ 20 (fun _ => Run.extract rfl rfl rfl) ?_
 refine dp_ 21 (fun _ => Run.assign rfl rfl) ?_
 refine dp_ 22 (fun _ => Run.assign rfl rfl) ?_
 refine dd_ ?_
 clear HB HSW
 exact by (
 refine via_ hK85 (rg_ (mv_ ?_))
 clear hK85
 refine mv_ ?_
 refine mv_ ?_
 refine WL.val rfl rfl (by decide) (Run.litN (sz := 1) (z := (vi 0)) (L := [[vi t87.1], [vi t87.2]]) rfl ⟨⟨rfl, _, rfl, rfl, rfl⟩, ⟨⟨rfl, _, rfl, rfl, rfl⟩, trivial⟩⟩ rfl underlying28 (by kernel_rfl) (by decide) (by decide)) ?_
 have HS1 := HS.below (below_alloc (Below.refl _ _) (.cells (List.toArray [vi t87.1, vi t87.2]) 3))
 obtain ⟨q90, H⟩ := if_some H
 refine WL.append HS1 0 rfl rfl rfl (by decide) rfl (vi 0) 8 underlying28 (by kernel_rfl) rfl (by decide) (by decide) rfl rfl [vi t87.1, vi t87.2] rfl (lit_news _ _ _) (oneL rfl) (by omega) ((xs47 ++ [t87.1, t87.2]).length) (by simp <;> omega) (fun v91 w92 I93 hI94 HS => ?_)
 exact by (
 dsimp only [List.set] at HS
 replace HS := HS.deriveN (p := (rF kI (xs47 ++ [t87.1, t87.2]) I93)) (fun W_ hN_ => reps_more (J := List.flatten [[vi t87.1], [vi t87.2]]) hI94 hN_.1 (reps_lit ⟨(K_int _), ⟨(K_int _), trivial⟩⟩))
 clear HS1
 refine ad_ hK64 ?_
 clear hK64
 refine rg_ (mv_ ?_)
 refine b_ bin_add64 ?_
 refine as_ ?_
 exact by (
 refine WL.done ?_
 exact wr_ k60 iq ⟨(xs47 ++ [t87.1, t87.2]), v91, I93, (wrap64 (i50 + 2)), ⟨_, H, Ho46⟩, rfl, (St.pk HS [0, 1, 2, 3, 4] [0] rfl rfl)⟩ ))))))))))))))))))))))))))))))))
def impl_run_turned.g (k : Nat) (x0 : S157) (x1 : S30) (a2 : Int) (l3 : List Int) : Option ((List Int) × Bool) := ((impl_run_apply.g k x0 (⟨x1.f0, x1.f1, x1.f2, x1.f3, x1.f4⟩ : S30) l3).bind fun t7 => (if t7.2 = true then ((impl_run_head.g k x0).bind fun t27 => ((impl_TurnAll.g k x0.f0.f8 a2 t27 t7.1).bind fun t30 => (some (t30.1, t30.2)))) else (some ([], false))))
theorem impl_run_turned.runs (k : Nat) (cs0 : List Value) (x0 : S157) (x1 : S30) (A1_1 : Option Addr) (c1_1 : Nat) (A1_2 : Option Addr) (c1_2 : Nat) (a2 : Int) (A3 : Option Addr) (c3 : Nat) (l3 : List Int) (r1 : List Int) (r2 : Bool) (w : World) (hk0 : k157.K w x0 cs0) (hr1_1 : kS3.C w A1_1 x1.f1.length x1.f1) (hc1_1 : x1.f1.length ≤ c1_1) (hr1_2 : kS3.C w A1_2 x1.f2.length x1.f2) (hc1_2 : x1.f2.length ≤ c1_2) (hr3 : kI.C w A3 l3.length l3) (hc3 : l3.length ≤ c3) (H : impl_run_turned.g k x0 x1 a2 l3 = some (r1, r2)) :
   Calls prog 184 #[.agg cs0.toArray, .agg #[vi x1.f0, .slice A1_1 x1.f1.length c1_1, .slice A1_2 x1.f2.length c1_2, vi x1.f3, vi x1.f4], vi a2, .slice A3 l3.length c3] w fun e w' => ∃ (A0_ : Option Addr) (c0_ : Nat), e = .returned (.tuple #[.slice A0_ r1.length c0_, .bool r2]) ∧ r1.length ≤ c0_ ∧ Foot (cF kI A0_ r1) w' (fun k_ => w.heap.size ≤ k_) ∧ Below w.heap.size w w' := by
 have el0 : cs0.length = 15 := k157.K_len hk0
 unfold impl_run_turned.g at H
 have HS : St (fun _ => True) w w [] [(kF k157 x0 cs0), (cF kS3 A1_1 x1.f1), (cF kS3 A1_2 x1.f2), (cF kI A3 l3)] [] := St.start (foot_cons (foot_K h157 hk0) (foot_cons (foot_C (Kd.heap_slice _ (Kd.heap_int _)) hr1_1) (foot_cons (foot_C (Kd.heap_slice _ (Kd.heap_int _)) hr1_2) (foot_cons (foot_C (Kd.heap_int _) hr3) foot_nil))))
 refine cw_ (n := 31) func184 fun R_ hR_ => ?_
 refine sr_ fun _ hK1 => ?_
 refine bo_ HS (fun b2 w3 hb2 HS => ?_)
 refine bo_ HS (fun b4 w5 hb4 HS => ?_)
 refine as_ ?_
 refine ad_ hK1 ?_
 refine sr_ fun _ hK6 => ?_
 refine v_ (Run.loadS (cs := cs0) rfl rfl underlying157 rfl (by rw [el0]; kernel_rfl) (box_part (HS.mu 1 rfl) part_all)) ?_
 refine v_ (ls_ (HS.mu 0 rfl) underlying30 part_all) ?_
 refine mv_ ?_
 obtain ⟨t7, ha8, H⟩ := bind_some H
 refine c_ func185 (impl_run_apply.runs k cs0 x0 (⟨x1.f0, x1.f1, x1.f2, x1.f3, x1.f4⟩ : S30) A1_1 c1_1 A1_2 c1_2 A3 c3 l3 t7.1 t7.2 _ (HS.getO 0 rfl) (HS.getO 1 rfl) hc1_1 (HS.getO 2 rfl) hc1_2 (HS.getO 3 rfl) hc3 ha8) ?_
 clear ha8
 rintro _ w9 ⟨A10, c11, rfl, le12, hf13, hb⟩
 replace HS := HS.newNs hb (foot_cons hf13 foot_nil)
 refine ⟨_, rfl, ?_⟩
 clear hb
 refine mv_ ?_
 refine v_ (Run.extract rfl rfl rfl) ?_
 refine v_ (Run.extract rfl rfl rfl) ?_
 refine as_ ?_
 refine ad_ hK6 ?_
 refine WC.seq fun _ hK14 => ?_
 refine sr_ fun _ hK15 => ?_
 refine mv_ ?_
 refine nt_ ?_
 refine dn_ hK15 ?_
 rcases eti_ H with ⟨c16, H⟩ | ⟨c16, H⟩
 · refine wy_ (nB (bF c16)) (sr_ fun _ hK37 => ?_)
   refine as_ ?_
   refine ad_ hK37 ?_
   obtain ⟨rfl, rfl⟩ := Prod.mk.inj (os H)
   exact rt2 Tryz.f184 rfl rfl rfl hR_ ⟨_, _, rfl, (Nat.le_refl _), (fun W_ _ => Kd.C_nil _ _), HS.b⟩
 refine wn_ (nB c16) (WC.skip (via_ hK14 (WC.seq fun _ hK17 => ?_)))
 refine WC.drawS HS [] rfl rfl (fun w18 HS => ?_)
 have HB := Below.refl w18.heap.size w18
 have HSW := HS
 refine df_ 0 underlying157 ?_
 refine df_ 1 underlying34 ?_
 refine dm_ 3 ?_
 refine dm_ 6 ?_
 obtain ⟨A19, c20, hc21, le22, HS⟩ := HS.sO 0 rfl at157_12
 obtain ⟨A23, c24, hc25, le26, HS⟩ := HS.sO 1 rfl at157_13
 refine dt_ 2 (Below.refl _ _) (fun w_ hw_ => Run.loadS (cs := [.slice A19 x0.f0.f8.f0.length c20, .slice A23 x0.f0.f8.f1.length c24]) rfl rfl underlying32 rfl (by kernel_rfl) (box_part ((HS.below hw_).mu 1 rfl) (part_cons hc21 (part_cons hc25 part_nil)))) ?_
 refine dt_ 4 (Below.refl _ _) (fun w_ hw_ => Run.loadS (cs := cs0) rfl rfl underlying157 rfl (by rw [el0]; kernel_rfl) (box_part ((HS.below hw_).mu 1 rfl) part_all)) ?_
 obtain ⟨t27, ha28, H⟩ := bind_some H
 refine dcs_ HS HB 5 (w_none rfl) func244 (impl_run_head.runs k cs0 x0 t27 _ (HS.getO 2 rfl) ha28) (fun w29 HS HB => ?_)
 clear ha28
 obtain ⟨t30, ha31, H⟩ := bind_some H
 refine dc_ 7 (w_none rfl) func243 (impl_TurnAll.runs k x0.f0.f8 A19 c20 A23 c24 a2 t27 A10 c11 t7.1 t30.1 t30.2 _ (HS.getO 1 rfl) le22 (HS.getO 0 rfl) le26 (HS.getN 0 rfl) le12 ha31) ?_
 clear ha31
 rintro _ w32 ⟨A33, c34, rfl, le35, hf36, hb⟩
 replace HB := HB.trans (hb.mono HB.size)
 replace HS := HS.newNs hb (foot_cons hf36 foot_nil)
 refine ⟨HB, _, rfl, ?_⟩
 clear hb
 refine dp_ 8 (fun _ => Run.extract rfl rfl rfl) ?_
 refine dp_ 9 (fun _ => Run.extract rfl rfl rfl) ?_
 refine dp_ 10 (fun _ => Run.assign rfl rfl) ?_
 refine dp_ 11 (fun _ => Run.assign rfl rfl) ?_
 refine dd_ ?_
 clear HB HSW
 refine via_ hK17 ?_
 obtain ⟨rfl, rfl⟩ := Prod.mk.inj (os H)
 exact rt2 Tryz.f184 rfl rfl rfl hR_ ⟨_, _, rfl, le35, (foot_fresh (HS.footN 0 rfl)), HS.b⟩
def slices_Clone_int_int.g0 (k : Nat) (l0 : List Int) : Option (List Int) := (if (0) + (l0.length) < 4294967296 then (some (([] : List Int) ++ l0)) else none)
theorem slices_Clone_int_int.runs0 (k : Nat) (ad0 : Addr) (c0 : Nat) (l0 : List Int) (r : List Int) (w : World) (hr0 : kI.C w (some ad0) l0.length l0) (hc0 : l0.length ≤ c0) (H : slices_Clone_int_int.g0 k l0 = some r) :
   Calls prog 211 #[.slice (some ad0) l0.length c0] w fun e w' => ∃ (v0_ : Value) (bl0_ : List Nat), e = .returned (v0_) ∧ Owns w' w.heap.size [valM (Dk.slice 3 (Dk.int .i64)) r [v0_] bl0_] ∧ Below w.heap.size w w' := by
 unfold slices_Clone_int_int.g0 at H
 have HS : St (fun _ => True) w w [] [(cF kI (some ad0) l0)] [] := St.start (foot_cons (foot_C (Kd.heap_int _) hr0) foot_nil)
 refine cw_ (n := 8) func211 fun R_ hR_ => ?_
 refine sr_ fun _ hK1 => ?_
 refine ad_ hK1 ?_
 refine WC.seq fun _ hK2 => ?_
 refine sr_ fun _ hK3 => ?_
 refine mv_ ?_
 refine v_ (Run.eqNil rfl rfl rfl underlying28) ?_
 refine dn_ hK3 (wn_ rfl ?_)
 refine WC.skip (via_ hK2 (sr_ fun _ hK4 => ?_))
 refine WL.lit0 HS rfl rfl (by decide) rfl underlying28 (sz := 1) (by kernel_rfl) (fun v5 w6 HS => ?_)
 replace HS := HS.deriveN (p := (rF kI ([] : List Int) [])) (fun _ _ => Reps.none _ _)
 refine mv_ ?_
 obtain ⟨q7, H⟩ := if_some H
 obtain ⟨L8, hl9, h10, hF11, hc12⟩ := foot_all (HS.footO 0 rfl) (by decide) rfl
 replace HS := HS.addN (p := (rF kI l0 L8)) (fun W_ _ => hF11.now)
 refine WL.appendL HS 0 rfl rfl rfl (by decide) rfl (vi 0) 8 underlying28 (by kernel_rfl) rfl (by decide) (by decide) rfl rfl L8 hl9 hc12 h10 (by omega) ((([] : List Int) ++ l0).length) (by simp <;> omega) (fun v13 w14 I15 hI16 HS => ?_)
 dsimp only [List.set] at HS
 replace HS := HS.deriveN (p := (rF kI (([] : List Int) ++ l0) I15)) (fun W_ hN_ => reps_more hI16 hN_.2.1 hN_.1)
 refine ad_ hK4 ?_
 refine WC.ret ?_
 obtain ⟨A17, c18, rfl⟩ := row_slice (HS.mu 0 rfl)
 replace HS := HS.elsF (xs := (([] : List Int) ++ l0)) (inner := I15) (Dk.int .i64) (fun _ _ _ h_ => ⟨h_, rfl⟩) (fun _ => (HS.getN 0 rfl))
 replace HS := HS.front 1 rfl
 dsimp only [List.eraseIdx] at HS
 replace HS := HS.seal rfl rfl
 obtain rfl := os H
 exact fin1 Tryz.f211 rfl rfl hR_ ⟨_, _, rfl, (St.owns HS), HS.b⟩
def slices_Clone_int_int.g (k : Nat) (l0 : List Int) : Option (List Int) := if l0.length < 4294967296 then some l0 else none
theorem slices_Clone_int_int.runs (k : Nat) (A0 : Option Addr) (c0 : Nat) (l0 r : List Int) (w : World) (hr0 : kI.C w A0 l0.length l0) (hc0 : l0.length ≤ c0) (H : slices_Clone_int_int.g k l0 = some r) :
   Calls prog 211 #[.slice A0 l0.length c0] w fun e w' => ∃ (v0_ : Value) (bl0_ : List Nat), e = .returned (v0_) ∧ Owns w' w.heap.size [valM (Dk.slice 3 (Dk.int .i64)) r [v0_] bl0_] ∧ Below w.heap.size w w' := by
 unfold slices_Clone_int_int.g at H
 obtain ⟨q, H⟩ := if_some H
 obtain rfl := os H
 cases A0 with
 | some ad => exact slices_Clone_int_int.runs0 k ad c0 _ _ w hr0 hc0 (by unfold slices_Clone_int_int.g0; rw [if_pos (by omega)]; rfl)
 | none =>
   obtain rfl := C_nilL hr0
   have HS : St (fun _ => True) w w [] [] [] := St.start foot_nil
   refine cw_ (n := 8) func211 fun R_ hR_ => ?_
   refine sr_ fun _ hK1 => ?_
   refine ad_ hK1 ?_
   refine WC.seq fun _ hK2 => ?_
   refine sr_ fun _ hK3 => ?_
   refine mv_ ?_
   refine v_ (Run.eqNil rfl rfl rfl underlying28) ?_
   refine dn_ hK3 (wy_ rfl ?_)
   refine sr_ fun _ hK4 => ?_
   refine ad_ hK4 ?_
   refine WC.ret ?_
   exact fin1 Tryz.f211 rfl rfl hR_ ⟨_, _, rfl, St.owns (HS.nilV (α := Int) 3 (Dk.int .i64)), HS.b⟩
def impl_Heads.b0 (l0 : List Int) (a1 : Int) (rec_ : (List (List Int)) → Int → Option ((List (List Int)) × Int)) (k36 : Nat) (xs23 : List (List Int)) (i26 : Int) : Option ((List (List Int)) × Int) := (if i26 < (l0.length : Int) then (if 0 ≤ i26 ∧ i26 ≤ (wrap64 (i26 + (wrap64 (Int.tdiv (l0.length : Int) a1)))) ∧ (wrap64 (i26 + (wrap64 (Int.tdiv (l0.length : Int) a1)))) ≤ (l0.length : Int) then ((slices_Clone_int_int.g k36 ((l0.take (wrap64 (i26 + (wrap64 (Int.tdiv (l0.length : Int) a1)))).toNat).drop i26.toNat)).bind fun t49 => (if (xs23.length) < 4294967296 then (rec_ (xs23 ++ [t49]) (wrap64 (i26 + (wrap64 (Int.tdiv (l0.length : Int) a1))))) else none)) else none) else (some (xs23, i26)))
def impl_Heads.l0 (l0 : List Int) (a1 : Int) : Nat → (List (List Int)) → Int → Option ((List (List Int)) × Int)
 | 0, _, _ => none
 | k + 1, xs23, i26 => impl_Heads.b0 l0 a1 (impl_Heads.l0 l0 a1 k) k xs23 i26
def impl_Heads.g (k : Nat) (l0 : List Int) (a1 : Int) : Option ((List (List Int)) × Bool) := ((impl_in.f a1 1 2).bind fun t4 => (if t4 = true then (if (l0.length : Int) = 0 then (some ([], false)) else (if a1 ≠ 0 then (if (Int.tmod (l0.length : Int) a1) = 0 then (if a1 ≠ 0 then ((impl_Heads.l0 l0 a1 k ([] : List (List Int)) 0).bind (fun oc34 => (some (oc34.1, true)))) else none) else (some ([], false))) else none)) else (some ([], false))))
theorem impl_Heads.runs (k : Nat) (A0 : Option Addr) (c0 : Nat) (l0 : List Int) (a1 : Int) (r1 : List (List Int)) (r2 : Bool) (w : World) (hr0 : kI.C w A0 l0.length l0) (hc0 : l0.length ≤ c0) (H : impl_Heads.g k l0 a1 = some (r1, r2)) :
   Calls prog 246 #[.slice A0 l0.length c0, vi a1] w fun e w' => ∃ (A0_ : Option Addr) (c0_ : Nat), e = .returned (.tuple #[.slice A0_ r1.length c0_, .bool r2]) ∧ r1.length ≤ c0_ ∧ Foot (cF kS3 A0_ r1) w' (fun k_ => w.heap.size ≤ k_) ∧ Below w.heap.size w w' := by
 unfold impl_Heads.g at H
 have HS : St (fun _ => True) w w [] [(cF kI A0 l0)] [] := St.start (foot_cons (foot_C (Kd.heap_int _) hr0) foot_nil)
 refine cw_ (n := 47) func246 fun R_ hR_ => ?_
 refine sr_ fun _ hK1 => ?_
 refine as_ ?_
 refine ad_ hK1 ?_
 refine WC.seq fun _ hK2 => ?_
 refine sr_ fun _ hK3 => ?_
 refine mv_ ?_
 obtain ⟨t4, ha5, H⟩ := bind_some H
 refine cs0_ HS func139 (impl_in.calls a1 1 2 t4 _ ha5) (fun w6 HS => ?_)
 clear ha5
 refine nt_ ?_
 refine mv_ ?_
 rcases eti_ H with ⟨c7, H⟩ | ⟨c7, H⟩
 · refine off_ (c' := true) (nB (bF c7)) ?_
   refine WL.know 12 (nB (bF c7)) ?_
   refine fast_ ?_
   refine via_ hK3 (wy_ rfl ?_)
   refine sr_ fun _ hK65 => ?_
   refine as_ ?_
   refine ad_ hK65 ?_
   obtain ⟨rfl, rfl⟩ := Prod.mk.inj (os H)
   exact rt2 Tryz.f246 rfl rfl rfl hR_ ⟨_, _, rfl, (Nat.le_refl _), (fun W_ _ => Kd.C_nil _ _), HS.b⟩
 refine on_ (nB c7) (mv_ ?_)
 refine on_ (nB c7) (ln_ underlying28 ?_)
 refine on_ (nB c7) (b_ bin_eql ?_)
 refine v_ (Run.pickF rfl rfl (nB c7) rfl) ?_
 refine mv_ ?_
 rcases ite_ H with ⟨c8, H⟩ | ⟨c8, H⟩
 · refine off_ (c' := true) (eT c8) ?_
   refine WL.know 17 (eT c8) ?_
   refine fast_ ?_
   refine via_ hK3 (wy_ rfl ?_)
   refine sr_ fun _ hK9 => ?_
   refine as_ ?_
   refine ad_ hK9 ?_
   obtain ⟨rfl, rfl⟩ := Prod.mk.inj (os H)
   exact rt2 Tryz.f246 rfl rfl rfl hR_ ⟨_, _, rfl, (Nat.le_refl _), (fun W_ _ => Kd.C_nil _ _), HS.b⟩
 refine on_ (eF c8) (mv_ ?_)
 refine on_ (eF c8) (ln_ underlying28 ?_)
 refine on_ (eF c8) (mv_ ?_)
 refine on_ (eF c8) ?_
 obtain ⟨z10, H⟩ := if_some H
 refine b_ (bin_rem z10) ?_
 refine on_ (eF c8) (b_ bin_neq ?_)
 refine v_ (Run.pickF rfl rfl (eF c8) rfl) ?_
 refine dn_ hK3 ?_
 rcases eti_ H with ⟨c11, H⟩ | ⟨c11, H⟩
 · refine wy_ (qT c11) (sr_ fun _ hK64 => ?_)
   refine as_ ?_
   refine ad_ hK64 ?_
   obtain ⟨rfl, rfl⟩ := Prod.mk.inj (os H)
   exact rt2 Tryz.f246 rfl rfl rfl hR_ ⟨_, _, rfl, (Nat.le_refl _), (fun W_ _ => Kd.C_nil _ _), HS.b⟩
 refine wn_ (qF c11) (WC.skip (via_ hK2 (sr_ fun _ hK12 => ?_)))
 refine mv_ ?_
 refine ln_ underlying28 ?_
 refine mv_ ?_
 obtain ⟨z13, H⟩ := if_some H
 refine b_ (bin_quo64 z13) ?_
 refine ad_ hK12 ?_
 refine sr_ fun _ hK14 => ?_
 refine WL.lit0 HS rfl rfl (by decide) rfl underlying26 (sz := 1) (by kernel_rfl) (fun v15 w16 HS => ?_)
 replace HS := HS.deriveN (p := (rF kS3 ([] : List (List Int)) [])) (fun _ _ => Reps.none _ _)
 refine ad_ hK14 ?_
 refine WC.seq fun K17 hK17 => ?_
 refine sr_ fun _ hK18 => ?_
 refine ad_ hK18 ?_
 refine WC.block ?_
 obtain ⟨G19, hG20, oc21, H, Ho22⟩ := open_G H
 let J27 := fun (xs23 : List (List Int)) v24 I25 (i26 : Int) (E_ : Env) (W_ : World) => E_ = [(0, .slice A0 l0.length c0), (6, vi (wrap64 (Int.tdiv (l0.length : Int) a1))), (7, v24), (8, vi i26)] ∧ St (fun _ => True) w W_ [rowM w.heap.size 28 1 v24 xs23.length I25] [(cF kI A0 l0)] [(rF kS3 xs23 I25)]
 have X28 : ∀ E_ W_, (∃ xs23 v24 I25 i26, G19 (xs23, i26) = some (r1, r2) ∧ J27 xs23 v24 I25 i26 E_ W_) → ∀ a, Fits a 47 E_ → K17 a W_ := by
   rintro E_ w29 ⟨xs23, v24, I25, i26, H, rfl, HS⟩
   rw [hG20] at H
   (try dsimp only at H)
   refine hK17 _ _ ?_
   refine sr_ fun _ hK30 => ?_
   refine fast_ ?_
   refine via_ hK30 (WC.ret ?_)
   obtain ⟨A31, c32, rfl⟩ := row_slice (HS.mu 0 rfl)
   have le33 := row_le (HS.mu 0 rfl)
   replace HS := HS.freezeN 0 (p := (cF kS3 A31 (xs23))) rfl (fun W_ hm_ h_ => row_C (by rfl) hm_ h_.1)
   dsimp only [List.eraseIdx] at HS
   obtain ⟨rfl, rfl⟩ := Prod.mk.inj (os H)
   exact fin2 Tryz.f246 rfl rfl rfl hR_ ⟨_, _, rfl, le33, (foot_fresh (HS.footN 0 rfl)), HS.b⟩
 clear hK17
 refine WC.loop (fun k_ E_ W_ => ∃ xs23 v24 I25 i26, (∃ o_, impl_Heads.l0 l0 a1 k_ xs23 i26 = some o_ ∧ G19 o_ = some (r1, r2)) ∧ J27 xs23 v24 I25 i26 E_ W_) k ⟨([] : List (List Int)), v15, ([]), 0, ⟨_, H, Ho22⟩, rfl, HS⟩ (sb rfl) ?_
 rintro k_ E_ w35 ⟨xs23, v24, I25, i26, ⟨oc21, H, Ho22⟩, rfl, HS⟩
 rcases k_ with _ | k36
 · exact no_ H
 replace H : impl_Heads.b0 l0 a1 (impl_Heads.l0 l0 a1 k36) k36 xs23 i26 = some oc21 := H
 unfold impl_Heads.b0 at H
 refine WC.seq fun _ hK37 => ?_
 refine sr_ fun _ hK38 => ?_
 refine mv_ ?_
 refine mv_ ?_
 refine ln_ underlying28 ?_
 refine b_ bin_lss ?_
 refine dn_ hK38 ?_
 rcases eti_ H with ⟨c39, H⟩ | ⟨c39, H⟩
 · refine wn_ (dF c39) (WC.exit ?_)
   obtain rfl := os H
   exact wv_ iq X28 ⟨xs23, v24, I25, i26, Ho22, rfl, HS⟩
 refine wy_ (dT c39) (WC.skip (via_ hK37 (WC.seq fun _ hK40 => ?_)))
 refine WC.block (rg_ (mv_ ?_))
 refine mv_ ?_
 refine mv_ ?_
 refine mv_ ?_
 refine mv_ ?_
 refine b_ bin_add64 ?_
 obtain ⟨⟨q41, q42, q43⟩, H⟩ := if_some H
 obtain ⟨A44, c45, he46, le47, hf48⟩ := slc_mid kI A0 c0 l0 i26 (wrap64 (i26 + (wrap64 (Int.tdiv (l0.length : Int) a1)))) q41 q42 q43 hc0
 replace HS := HS.deriveO (p := (cF kI A44 ((l0.take (wrap64 (i26 + (wrap64 (Int.tdiv (l0.length : Int) a1)))).toNat).drop i26.toNat))) (fun W_ hO_ hN_ => hf48 W_ hO_.1)
 refine v_ (Run.eqv he46 (Run.slLH rfl underlying28 (by kernel_rfl) rfl rfl rfl q41 q42 (Int.le_trans q43 (Int.ofNat_le.mpr hc0)))) ?_
 obtain ⟨t49, ha50, H⟩ := bind_some H
 refine c_ func211 (slices_Clone_int_int.runs k36 A44 c45 ((l0.take (wrap64 (i26 + (wrap64 (Int.tdiv (l0.length : Int) a1)))).toNat).drop i26.toNat) t49 _ (HS.getO 0 rfl) le47 ha50) ?_
 clear ha50
 rintro _ w51 ⟨v52, bl53, rfl, hO_, hb⟩
 replace HS := HS.got hb hO_
 dsimp only [List.cons_append, List.nil_append] at HS
 clear hO_
 obtain ⟨I54, bl55, HS⟩ := HS.unseal (sz := 1) rfl
 replace HS := HS.freezeN 1 (p := (rF kI t49 I54)) rfl (fun _ hP_ _ => RepsB.reps hP_)
 dsimp only [List.eraseIdx] at HS
 refine ⟨_, rfl, ?_⟩
 clear hb
 obtain ⟨A56, c57, rfl⟩ := row_slice (HS.mu 0 rfl)
 have le58 := row_le (HS.mu 0 rfl)
 replace HS := HS.freezeN 0 (p := (cF kI A56 (t49))) rfl (fun W_ hm_ h_ => row_C (by rfl) hm_ h_.1)
 dsimp only [List.eraseIdx] at HS
 refine WL.val rfl rfl (by decide) (Run.lit1 (z := (sn)) (vs := [.slice A56 t49.length c57]) rfl rfl rfl underlying26 (by kernel_rfl) (ble_ rfl) (ble_ rfl)) ?_
 have HS1 := HS.below (below_alloc (Below.refl _ _) (.cells #[.slice A56 t49.length c57] 28))
 obtain ⟨q59, H⟩ := if_some H
 refine WL.append HS1 0 rfl rfl rfl (by decide) rfl (sn) 24 underlying26 (by kernel_rfl) rfl (by decide) (by decide) rfl rfl [.slice A56 t49.length c57] rfl (lit_news _ _ _) (oneL rfl) (by omega) ((xs23 ++ [t49]).length) (by simp) (fun v60 w61 I62 hI63 HS => ?_)
 dsimp only [List.set] at HS
 replace HS := HS.deriveN (p := (rF kS3 (xs23 ++ [t49]) I62)) (fun W_ hN_ => reps_snoc hI63 hN_.2.2.1 (K_slice le58 hN_.1))
 clear HS1
 refine ad_ hK40 ?_
 refine rg_ (mv_ ?_)
 refine mv_ ?_
 refine b_ bin_add64 ?_
 refine as_ ?_
 refine WL.done ?_
 exact wr_ k36 iq ⟨(xs23 ++ [t49]), v60, I62, (wrap64 (i26 + (wrap64 (Int.tdiv (l0.length : Int) a1)))), ⟨_, H, Ho22⟩, rfl, (St.pk HS [1] [0] rfl rfl)⟩
def impl_cut.b0 (l0 : List Int) (a1 : Int) (rec_ : (List Int) → Bool → Int → Option ((List Int) × Bool × Int)) (k25 : Nat) (xs12 : List Int) (u15 : Bool) (i16 : Int) : Option ((List Int) × Bool × Int) := (if i16 < (l0.length : Int) then (if 0 ≤ i16 ∧ i16 < (l0.length : Int) then ((impl_MulShift.f k25 (l0.getD i16.toNat 0) 1 a1).bind fun t35 => ((impl_Clamp.f t35 15).bind fun t39 => (if (xs12.length) < 4294967296 then (if u15 = true then ((impl_in.f t35 (-15) 15).bind fun t48 => (rec_ (xs12 ++ [t39]) t48 (wrap64 (i16 + 1)))) else (rec_ (xs12 ++ [t39]) false (wrap64 (i16 + 1)))) else none))) else none) else (some (xs12, u15, i16)))
def impl_cut.l0 (l0 : List Int) (a1 : Int) : Nat → (List Int) → Bool → Int → Option ((List Int) × Bool × Int)
 | 0, _, _, _ => none
 | k + 1, xs12, u15, i16 => impl_cut.b0 l0 a1 (impl_cut.l0 l0 a1 k) k xs12 u15 i16
def impl_cut.g (k : Nat) (l0 : List Int) (a1 : Int) : Option ((List Int) × Bool) := ((impl_cut.l0 l0 a1 k ([] : List Int) true 0).bind (fun oc23 => (some (oc23.1, oc23.2.1))))
theorem impl_cut.runs (k : Nat) (A0 : Option Addr) (c0 : Nat) (l0 : List Int) (a1 : Int) (r1 : List Int) (r2 : Bool) (w : World) (hr0 : kI.C w A0 l0.length l0) (hc0 : l0.length ≤ c0) (H : impl_cut.g k l0 a1 = some (r1, r2)) :
   Calls prog 276 #[.slice A0 l0.length c0, vi a1] w fun e w' => ∃ (v0_ : Value) (bl0_ : List Nat), e = .returned (.tuple #[v0_, .bool r2]) ∧ Owns w' w.heap.size [valM (Dk.slice 3 (Dk.int .i64)) r1 [v0_] bl0_] ∧ Below w.heap.size w w' := by
 unfold impl_cut.g at H
 have HS : St (fun _ => True) w w [] [(cF kI A0 l0)] [] := St.start (foot_cons (foot_C (Kd.heap_int _) hr0) foot_nil)
 refine cw_ (n := 34) func276 fun R_ hR_ => ?_
 refine sr_ fun _ hK1 => ?_
 refine as_ ?_
 refine ad_ hK1 ?_
 refine sr_ fun _ hK2 => ?_
 refine WL.lit0 HS rfl rfl (by decide) rfl underlying28 (sz := 1) (by kernel_rfl) (fun v3 w4 HS => ?_)
 replace HS := HS.deriveN (p := (rF kI ([] : List Int) [])) (fun _ _ => Reps.none _ _)
 refine ad_ hK2 ?_
 refine sr_ fun _ hK5 => ?_
 refine ad_ hK5 ?_
 refine WC.seq fun K6 hK6 => ?_
 refine sr_ fun _ hK7 => ?_
 refine mv_ ?_
 refine ln_ underlying28 ?_
 refine mv_ ?_
 refine dn_ hK7 (WC.block ?_)
 obtain ⟨G8, hG9, oc10, H, Ho11⟩ := open_G H
 let J17 := fun (xs12 : List Int) v13 I14 (u15 : Bool) (i16 : Int) (E_ : Env) (W_ : World) => E_ = [(1, vi a1), (6, v13), (7, .bool u15), (12, .slice A0 l0.length c0), (13, vi (l0.length : Int)), (14, vi i16)] ∧ St (fun _ => True) w W_ [rowM w.heap.size 3 1 v13 xs12.length I14] [(cF kI A0 l0)] [(rF kI xs12 I14)]
 have X18 : ∀ E_ W_, (∃ xs12 v13 I14 u15 i16, G8 (xs12, u15, i16) = some (r1, r2) ∧ J17 xs12 v13 I14 u15 i16 E_ W_) → ∀ a, Fits a 34 E_ → K6 a W_ := by
   rintro E_ w19 ⟨xs12, v13, I14, u15, i16, H, rfl, HS⟩
   rw [hG9] at H
   (try dsimp only at H)
   refine hK6 _ _ ?_
   refine sr_ fun _ hK20 => ?_
   refine fast_ ?_
   refine via_ hK20 (WC.ret ?_)
   obtain ⟨A21, c22, rfl⟩ := row_slice (HS.mu 0 rfl)
   replace HS := HS.elsF (xs := xs12) (inner := I14) (Dk.int .i64) (fun _ _ _ h_ => ⟨h_, rfl⟩) (fun _ => (HS.getN 0 rfl))
   replace HS := HS.front 1 rfl
   dsimp only [List.eraseIdx] at HS
   replace HS := HS.seal rfl rfl
   obtain ⟨rfl, rfl⟩ := Prod.mk.inj (os H)
   exact fin2 Tryz.f276 rfl rfl rfl hR_ ⟨_, _, rfl, (St.owns HS), HS.b⟩
 clear hK6
 refine WC.loop (fun k_ E_ W_ => ∃ xs12 v13 I14 u15 i16, (∃ o_, impl_cut.l0 l0 a1 k_ xs12 u15 i16 = some o_ ∧ G8 o_ = some (r1, r2)) ∧ J17 xs12 v13 I14 u15 i16 E_ W_) k ⟨([] : List Int), v3, ([]), true, 0, ⟨_, H, Ho11⟩, rfl, HS⟩ (sb rfl) ?_
 rintro k_ E_ w24 ⟨xs12, v13, I14, u15, i16, ⟨oc10, H, Ho11⟩, rfl, HS⟩
 rcases k_ with _ | k25
 · exact no_ H
 replace H : impl_cut.b0 l0 a1 (impl_cut.l0 l0 a1 k25) k25 xs12 u15 i16 = some oc10 := H
 unfold impl_cut.b0 at H
 refine sr_ fun _ hK26 => ?_
 refine b_ bin_lss ?_
 refine dn_ hK26 (WC.seq fun _ hK27 => ?_)
 rcases eti_ H with ⟨c28, H⟩ | ⟨c28, H⟩
 · refine wn_ (dF c28) (WC.exit ?_)
   obtain rfl := os H
   exact wv_ iq X18 ⟨xs12, v13, I14, u15, i16, Ho11, rfl, HS⟩
 refine wy_ (dT c28) (WC.skip (via_ hK27 (WC.seq fun _ hK29 => ?_)))
 refine WC.block (sr_ fun _ hK30 => ?_)
 obtain ⟨⟨q31, q32⟩, H⟩ := if_some H
 obtain ⟨ad33, rfl⟩ := C_open (HS.getO 0 rfl) (lenpos q31 q32)
 refine v_ (ia_ underlying28 1 q31 q32) ?_
 refine v_ (Run.load rfl rfl underlying3 rfl (int_cell (HS.getO 0 rfl) i16 q31 q32)) ?_
 refine ad_ hK30 ?_
 refine sr_ fun _ hK34 => ?_
 refine mv_ ?_
 refine mv_ ?_
 obtain ⟨t35, ha36, H⟩ := bind_some H
 refine cs0_ HS func275 (impl_MulShift.calls k25 (l0.getD i16.toNat 0) 1 a1 t35 _ ha36) (fun w37 HS => ?_)
 clear ha36
 refine ad_ hK34 ?_
 refine sr_ fun _ hK38 => ?_
 refine mv_ ?_
 refine mv_ ?_
 obtain ⟨t39, ha40, H⟩ := bind_some H
 refine cs_ HS func242 (impl_Clamp.calls t35 15 t39 _ ha40) (fun w41 HS => ?_)
 clear ha40
 refine WL.val rfl rfl (by decide) (Run.lit1 (z := (vi 0)) (vs := [vi t39]) rfl rfl rfl underlying28 (by kernel_rfl) (ble_ rfl) (ble_ rfl)) ?_
 have HS1 := HS.below (below_alloc (Below.refl _ _) (.cells #[vi t39] 3))
 obtain ⟨q42, H⟩ := if_some H
 refine WL.append HS1 0 rfl rfl rfl (by decide) rfl (vi 0) 8 underlying28 (by kernel_rfl) rfl (by decide) (by decide) rfl rfl [vi t39] rfl (lit_news _ _ _) (oneL rfl) (by omega) ((xs12 ++ [t39]).length) (by simp) (fun v43 w44 I45 hI46 HS => ?_)
 dsimp only [List.set] at HS
 replace HS := HS.deriveN (p := (rF kI (xs12 ++ [t39]) I45)) (fun W_ hN_ => reps_snoc hI46 hN_.1 (K_int _))
 clear HS1
 refine ad_ hK38 ?_
 refine rg_ (mv_ ?_)
 refine mv_ ?_
 rcases eti_ H with ⟨c47, H⟩ | ⟨c47, H⟩
 · refine off_ (c' := false) (bF c47) ?_
   refine WL.know 27 (bF c47) ?_
   refine fast_ ?_
   refine via_ hK29 (rg_ (b_ bin_add64 ?_))
   refine mv_ ?_
   refine WL.done ?_
   exact wr_ k25 iq ⟨(xs12 ++ [t39]), v43, I45, false, (wrap64 (i16 + 1)), ⟨_, H, Ho11⟩, rfl, (St.pk HS [0] [0] rfl rfl)⟩
 refine on_ c47 ?_
 refine mv_ ?_
 refine on_ c47 ?_
 obtain ⟨t48, ha49, H⟩ := bind_some H
 refine cs0_ HS func139 (impl_in.calls t35 (-15) 15 t48 _ ha49) (fun w50 HS => ?_)
 clear ha49
 refine v_ (Run.pickT rfl rfl c47 rfl) ?_
 refine ad_ hK29 ?_
 refine rg_ (b_ bin_add64 ?_)
 refine mv_ ?_
 refine WL.done ?_
 exact wr_ k25 iq ⟨(xs12 ++ [t39]), v43, I45, t48, (wrap64 (i16 + 1)), ⟨_, H, Ho11⟩, rfl, (St.pk HS [0] [0] rfl rfl)⟩
def impl_CutDown.b0 (l0 : List Int) (rec_ : Int → Option ((S67 × Bool) ⊕ Int)) (k23 : Nat) (i19 : Int) : Option ((S67 × Bool) ⊕ Int) := ((impl_cut.g k23 l0 i19).bind fun t26 => (if t26.2 = true then (some (Sum.inl ((⟨i19, t26.1⟩ : S67), true))) else (if i19 = 4 then (some (Sum.inl ((⟨i19, t26.1⟩ : S67), true))) else (rec_ (wrap64 (i19 + 1))))))
def impl_CutDown.l0 (l0 : List Int) : Nat → Int → Option ((S67 × Bool) ⊕ Int)
 | 0, _ => none
 | k + 1, i19 => impl_CutDown.b0 l0 (impl_CutDown.l0 l0 k) k i19
def impl_CutDown.g (k : Nat) (l0 : List Int) : Option (S67 × Bool) := ((impl_in.f (l0.length : Int) 1 8).bind fun t6 => (if t6 = true then ((impl_allIn.f l0 (-127) 127).bind fun t10 => (if t10 = true then ((impl_CutDown.l0 l0 k 0).bind (fun oc21 => match oc21 with | .inl r_ => some r_ | .inr _ => none)) else (some ((⟨0, []⟩ : S67), false)))) else (some ((⟨0, []⟩ : S67), false))))
theorem impl_CutDown.runs (k : Nat) (A0 : Option Addr) (c0 : Nat) (l0 : List Int) (r1 : S67) (r2 : Bool) (w : World) (hr0 : kI.C w A0 l0.length l0) (hc0 : l0.length ≤ c0) (H : impl_CutDown.g k l0 = some (r1, r2)) :
   Calls prog 247 #[.slice A0 l0.length c0] w fun e w' => ∃ (v0_1_ : Value) (bl0_1_ : List Nat), e = .returned (.tuple #[.agg #[vi r1.f0, v0_1_], .bool r2]) ∧ Owns w' w.heap.size [valM (Dk.slice 3 (Dk.int .i64)) r1.f1 [v0_1_] bl0_1_] ∧ Below w.heap.size w w' := by
 unfold impl_CutDown.g at H
 have HS : St (fun _ => True) w w [] [(cF kI A0 l0)] [] := St.start (foot_cons (foot_C (Kd.heap_int _) hr0) foot_nil)
 refine cw_ (n := 33) func247 fun R_ hR_ => ?_
 refine sr_ fun _ hK1 => ?_
 refine WL.alloc HS (v := .agg #[vi 0, sn]) (cs := #[vi 0, sn]) rfl rfl (by decide) rfl (by kernel_rfl) rfl (fun b2 w3 hb2 HS => ?_)
 refine ad_ hK1 ?_
 refine WC.seq fun _ hK4 => ?_
 refine sr_ fun _ hK5 => ?_
 refine mv_ ?_
 refine ln_ underlying28 ?_
 obtain ⟨t6, ha7, H⟩ := bind_some H
 refine cs0_ HS func139 (impl_in.calls (l0.length : Int) 1 8 t6 _ ha7) (fun w8 HS => ?_)
 clear ha7
 refine nt_ ?_
 refine mv_ ?_
 rcases eti_ H with ⟨c9, H⟩ | ⟨c9, H⟩
 · refine off_ (c' := true) (nB (bF c9)) ?_
   refine WL.know 11 (nB (bF c9)) ?_
   refine fast_ ?_
   refine via_ hK5 (wy_ rfl ?_)
   refine sr_ fun _ hK46 => ?_
   refine v_ (Run.build (cells := #[vi 0, sn]) rfl [] trivial (by kernel_rfl)) ?_
   refine WL.storeW HS 0 rfl rfl rfl rfl rfl rfl (oneL rfl) (by kernel_rfl) rfl (fun w47 HS => ?_)
   dsimp only [List.set] at HS
   refine ad_ hK46 ?_
   refine WC.ret ?_
   replace HS := HS.nilV (α := Int) 3 (Dk.int .i64)
   obtain ⟨rfl, rfl⟩ := Prod.mk.inj (os H)
   exact fin2 Tryz.f247 rfl ⟨_, rfl, resv_box (HS.mu 1 rfl) underlying67 rfl (by kernel_rfl)⟩ rfl hR_ ⟨_, _, rfl, (St.owns (St.forget HS 1 rfl)), HS.b⟩
 refine on_ (nB c9) (mv_ ?_)
 refine on_ (nB c9) ?_
 obtain ⟨t10, ha11, H⟩ := bind_some H
 refine cs_ HS func157 (impl_allIn.calls A0 c0 l0 (-127) 127 t10 _ (HS.getO 0 rfl) hc0 ha11) (fun w12 HS => ?_)
 clear ha11
 refine on_ (nB c9) (nt_ ?_)
 refine v_ (Run.pickF rfl rfl (nB c9) rfl) ?_
 refine dn_ hK5 ?_
 rcases eti_ H with ⟨c13, H⟩ | ⟨c13, H⟩
 · refine wy_ (nB (bF c13)) (sr_ fun _ hK44 => ?_)
   refine v_ (Run.build (cells := #[vi 0, sn]) rfl [] trivial (by kernel_rfl)) ?_
   refine WL.storeW HS 0 rfl rfl rfl rfl rfl rfl (oneL rfl) (by kernel_rfl) rfl (fun w45 HS => ?_)
   dsimp only [List.set] at HS
   refine ad_ hK44 ?_
   refine WC.ret ?_
   replace HS := HS.nilV (α := Int) 3 (Dk.int .i64)
   obtain ⟨rfl, rfl⟩ := Prod.mk.inj (os H)
   exact fin2 Tryz.f247 rfl ⟨_, rfl, resv_box (HS.mu 1 rfl) underlying67 rfl (by kernel_rfl)⟩ rfl hR_ ⟨_, _, rfl, (St.owns (St.forget HS 1 rfl)), HS.b⟩
 refine wn_ (nB c13) (WC.skip (via_ hK4 (sr_ fun _ hK14 => ?_)))
 refine ad_ hK14 ?_
 refine WC.block ?_
 obtain ⟨G15, hG16, oc17, H, Ho18⟩ := open_G H
 let J20 := fun (i19 : Int) (E_ : Env) (W_ : World) => E_ = [(0, .slice A0 l0.length c0), (2, .pointer (some ⟨b2, 0, none⟩)), (4, vi i19)] ∧ St (fun _ => True) w W_ [boxM b2 #[vi 0, sn] 67] [(cF kI A0 l0)] []
 refine WC.loop (fun k_ E_ W_ => ∃ i19, (∃ o_, impl_CutDown.l0 l0 k_ i19 = some o_ ∧ G15 o_ = some (r1, r2)) ∧ J20 i19 E_ W_) k ⟨0, ⟨_, H, Ho18⟩, rfl, HS⟩ (sb rfl) ?_
 rintro k_ E_ w22 ⟨i19, ⟨oc17, H, Ho18⟩, rfl, HS⟩
 rcases k_ with _ | k23
 · exact no_ H
 replace H : impl_CutDown.b0 l0 (impl_CutDown.l0 l0 k23) k23 i19 = some oc17 := H
 unfold impl_CutDown.b0 at H
 refine WC.seq fun _ hK24 => ?_
 refine WC.block (sr_ fun _ hK25 => ?_)
 refine mv_ ?_
 refine mv_ ?_
 obtain ⟨t26, ha27, H⟩ := bind_some H
 refine c_ func276 (impl_cut.runs k23 A0 c0 l0 i19 t26.1 t26.2 _ (HS.getO 0 rfl) hc0 ha27) ?_
 clear ha27
 rintro _ w28 ⟨v29, bl30, rfl, hO_, hb⟩
 replace HS := HS.got hb hO_
 dsimp only [List.cons_append, List.nil_append] at HS
 clear hO_
 obtain ⟨I31, bl32, HS⟩ := HS.unseal (sz := 1) rfl
 replace HS := HS.freezeN 1 (p := (rF kI t26.1 I31)) rfl (fun _ hP_ _ => RepsB.reps hP_)
 dsimp only [List.eraseIdx] at HS
 refine ⟨_, rfl, ?_⟩
 clear hb
 refine mv_ ?_
 refine v_ (Run.extract rfl rfl rfl) ?_
 refine v_ (Run.extract rfl rfl rfl) ?_
 refine as_ ?_
 refine ad_ hK25 ?_
 refine sr_ fun _ hK33 => ?_
 refine mv_ ?_
 refine mv_ ?_
 rcases ite_ H with ⟨c34, H⟩ | ⟨c34, H⟩
 · refine off_ (c' := true) c34 ?_
   refine off_ (c' := true) c34 ?_
   refine v_ (Run.pickT rfl rfl c34 rfl) ?_
   refine dn_ hK33 (wy_ rfl ?_)
   refine sr_ fun _ hK35 => ?_
   refine mv_ ?_
   refine mv_ ?_
   obtain ⟨A36, c37, rfl⟩ := row_slice (HS.mu 0 rfl)
   refine v_ (Run.build (cells := #[vi i19, (.slice A36 t26.1.length c37)]) rfl [(0, vi i19), (1, (.slice A36 t26.1.length c37))] ⟨⟨rfl, rfl⟩, ⟨⟨rfl, rfl⟩, trivial⟩⟩ (by kernel_rfl)) ?_
   refine WL.storeW HS 1 rfl rfl rfl rfl rfl rfl (oneL rfl) (by kernel_rfl) rfl (fun w38 HS => ?_)
   dsimp only [List.set] at HS
   refine ad_ hK35 ?_
   refine WC.ret ?_
   replace HS := HS.elsF (xs := t26.1) (inner := I31) (Dk.int .i64) (fun _ _ _ h_ => ⟨h_, rfl⟩) (fun _ => (HS.getN 0 rfl))
   replace HS := HS.front 1 rfl
   dsimp only [List.eraseIdx] at HS
   replace HS := HS.seal rfl rfl
   obtain rfl := os H
   rw [hG16] at Ho18
   replace H : some _ = some _ := Ho18
   obtain ⟨rfl, rfl⟩ := Prod.mk.inj (os H)
   exact fin2 Tryz.f247 rfl ⟨_, rfl, resv_box (HS.mu 1 rfl) underlying67 rfl (by kernel_rfl)⟩ rfl hR_ ⟨_, _, rfl, (St.owns (St.forget HS 1 rfl)), HS.b⟩
 refine on_ (bF c34) (mv_ ?_)
 refine on_ (bF c34) (b_ bin_eql ?_)
 refine v_ (Run.pickF rfl rfl (bF c34) rfl) ?_
 refine dn_ hK33 ?_
 rcases eti_ H with ⟨c39, H⟩ | ⟨c39, H⟩
 · refine wn_ (eF c39) (WC.skip (via_ hK24 (rg_ (mv_ ?_))))
   refine b_ bin_add64 ?_
   refine as_ ?_
   refine WL.done ?_
   exact wr_ k23 iq ⟨(wrap64 (i19 + 1)), ⟨_, H, Ho18⟩, rfl, (St.pk (St.forget HS 0 rfl) [0] [] rfl rfl)⟩
 refine wy_ (eT c39) (sr_ fun _ hK40 => ?_)
 refine mv_ ?_
 refine mv_ ?_
 obtain ⟨A41, c42, rfl⟩ := row_slice (HS.mu 0 rfl)
 refine v_ (Run.build (cells := #[vi i19, (.slice A41 t26.1.length c42)]) rfl [(0, vi i19), (1, (.slice A41 t26.1.length c42))] ⟨⟨rfl, rfl⟩, ⟨⟨rfl, rfl⟩, trivial⟩⟩ (by kernel_rfl)) ?_
 refine WL.storeW HS 1 rfl rfl rfl rfl rfl rfl (oneL rfl) (by kernel_rfl) rfl (fun w43 HS => ?_)
 dsimp only [List.set] at HS
 refine ad_ hK40 ?_
 refine WC.ret ?_
 replace HS := HS.elsF (xs := t26.1) (inner := I31) (Dk.int .i64) (fun _ _ _ h_ => ⟨h_, rfl⟩) (fun _ => (HS.getN 0 rfl))
 replace HS := HS.front 1 rfl
 dsimp only [List.eraseIdx] at HS
 replace HS := HS.seal rfl rfl
 obtain rfl := os H
 rw [hG16] at Ho18
 replace H : some _ = some _ := Ho18
 obtain ⟨rfl, rfl⟩ := Prod.mk.inj (os H)
 exact fin2 Tryz.f247 rfl ⟨_, rfl, resv_box (HS.mu 1 rfl) underlying67 rfl (by kernel_rfl)⟩ rfl hR_ ⟨_, _, rfl, (St.owns (St.forget HS 1 rfl)), HS.b⟩
def impl_run_cutHeads.b0 (t5 : (List (List Int)) × Bool) (rec_ : Bool → (List S67) → Int → Option (Bool × (List S67) × Int)) (k35 : Nat) (u21 : Bool) (xs22 : List S67) (i26 : Int) : Option (Bool × (List S67) × Int) := (if i26 < (t5.1.length : Int) then (if 0 ≤ i26 ∧ i26 < (t5.1.length : Int) then ((impl_CutDown.g k35 (t5.1.getD i26.toNat [])).bind fun t48 => (if u21 = true then (if (xs22.length) < 4294967296 then (rec_ t48.2 (xs22 ++ [(⟨t48.1.f0, t48.1.f1⟩ : S67)]) (wrap64 (i26 + 1))) else none) else (if (xs22.length) < 4294967296 then (rec_ false (xs22 ++ [(⟨t48.1.f0, t48.1.f1⟩ : S67)]) (wrap64 (i26 + 1))) else none))) else none) else (some (u21, xs22, i26)))
def impl_run_cutHeads.l0 (t5 : (List (List Int)) × Bool) : Nat → Bool → (List S67) → Int → Option (Bool × (List S67) × Int)
 | 0, _, _, _ => none
 | k + 1, u21, xs22, i26 => impl_run_cutHeads.b0 t5 (impl_run_cutHeads.l0 t5 k) k u21 xs22 i26
def impl_run_cutHeads.g (k : Nat) (x0 : S157) (l1 : List Int) : Option ((List S67) × Bool) := ((impl_Heads.g k l1 x0.f0.f1).bind fun t5 => ((impl_run_cutHeads.l0 t5 k t5.2 ([] : List S67) 0).bind (fun oc33 => (some (oc33.2.1, oc33.1)))))
theorem impl_run_cutHeads.runs (k : Nat) (cs0 : List Value) (x0 : S157) (A1 : Option Addr) (c1 : Nat) (l1 : List Int) (r1 : List S67) (r2 : Bool) (w : World) (hk0 : k157.K w x0 cs0) (hr1 : kI.C w A1 l1.length l1) (hc1 : l1.length ≤ c1) (H : impl_run_cutHeads.g k x0 l1 = some (r1, r2)) :
   Calls prog 186 #[.agg cs0.toArray, .slice A1 l1.length c1] w fun e w' => ∃ (v0_ : Value) (bl0_ : List Nat), e = .returned (.tuple #[v0_, .bool r2]) ∧ Owns w' w.heap.size [valM (Dk.slice 67 dq67) r1 [v0_] bl0_] ∧ Below w.heap.size w w' := by
 have el0 : cs0.length = 15 := k157.K_len hk0
 unfold impl_run_cutHeads.g at H
 have HS : St (fun _ => True) w w [] [(kF k157 x0 cs0), (cF kI A1 l1)] [] := St.start (foot_cons (foot_K h157 hk0) (foot_cons (foot_C (Kd.heap_int _) hr1) foot_nil))
 refine cw_ (n := 44) func186 fun R_ hR_ => ?_
 refine sr_ fun _ hK1 => ?_
 refine bo_ HS (fun b2 w3 hb2 HS => ?_)
 refine as_ ?_
 refine ad_ hK1 ?_
 refine sr_ fun _ hK4 => ?_
 refine mv_ ?_
 refine v_ (fa_ underlying157) ?_
 refine v_ (fa_ underlying34) ?_
 refine v_ (lb_ (HS.mu 0 rfl) underlying3 (at157_1 (HS.aO 0 rfl)).int) ?_
 obtain ⟨t5, ha6, H⟩ := bind_some H
 refine c_ func246 (impl_Heads.runs k A1 c1 l1 x0.f0.f1 t5.1 t5.2 _ (HS.getO 1 rfl) hc1 ha6) ?_
 clear ha6
 rintro _ w7 ⟨A8, c9, rfl, le10, hf11, hb⟩
 replace HS := HS.newNs hb (foot_cons hf11 foot_nil)
 refine ⟨_, rfl, ?_⟩
 clear hb
 refine mv_ ?_
 refine v_ (Run.extract rfl rfl rfl) ?_
 refine v_ (Run.extract rfl rfl rfl) ?_
 refine as_ ?_
 refine ad_ hK4 ?_
 refine sr_ fun _ hK12 => ?_
 refine WL.lit0 HS rfl rfl (by decide) rfl underlying49 (sz := 2) (by kernel_rfl) (fun v13 w14 HS => ?_)
 replace HS := HS.els0 (dq67)
 refine ad_ hK12 ?_
 refine WC.seq fun K15 hK15 => ?_
 refine sr_ fun _ hK16 => ?_
 refine mv_ ?_
 refine ln_ underlying26 ?_
 refine mv_ ?_
 refine dn_ hK16 (WC.block ?_)
 obtain ⟨G17, hG18, oc19, H, Ho20⟩ := open_G H
 let J27 := fun (u21 : Bool) (xs22 : List S67) v23 I24 bl25 (i26 : Int) (E_ : Env) (W_ : World) => E_ = [(7, .bool u21), (8, v23), (22, .slice A8 t5.1.length c9), (23, vi (t5.1.length : Int)), (24, vi i26)] ∧ St (fun _ => True) w W_ [elsM dq67 xs22 I24 bl25, rowM w.heap.size 67 2 v23 xs22.length I24, boxM b2 cs0.toArray 157] [(kF k157 x0 cs0), (cF kI A1 l1)] [(cF kS3 A8 t5.1)]
 have X28 : ∀ E_ W_, (∃ u21 xs22 v23 I24 bl25 i26, G17 (u21, xs22, i26) = some (r1, r2) ∧ J27 u21 xs22 v23 I24 bl25 i26 E_ W_) → ∀ a, Fits a 44 E_ → K15 a W_ := by
   rintro E_ w29 ⟨u21, xs22, v23, I24, bl25, i26, H, rfl, HS⟩
   rw [hG18] at H
   (try dsimp only at H)
   refine hK15 _ _ ?_
   refine sr_ fun _ hK30 => ?_
   refine fast_ ?_
   refine via_ hK30 (WC.ret ?_)
   obtain ⟨A31, c32, rfl⟩ := row_slice (HS.mu 1 rfl)
   replace HS := HS.front 1 rfl
   dsimp only [List.eraseIdx] at HS
   replace HS := HS.seal rfl rfl
   obtain ⟨rfl, rfl⟩ := Prod.mk.inj (os H)
   exact fin2 Tryz.f186 rfl rfl rfl hR_ ⟨_, _, rfl, (St.owns (St.forget HS 1 rfl)), HS.b⟩
 clear hK15
 refine WC.loop (fun k_ E_ W_ => ∃ u21 xs22 v23 I24 bl25 i26, (∃ o_, impl_run_cutHeads.l0 t5 k_ u21 xs22 i26 = some o_ ∧ G17 o_ = some (r1, r2)) ∧ J27 u21 xs22 v23 I24 bl25 i26 E_ W_) k ⟨t5.2, ([] : List S67), v13, ([]), ([]), 0, ⟨_, H, Ho20⟩, rfl, HS⟩ (sb rfl) ?_
 rintro k_ E_ w34 ⟨u21, xs22, v23, I24, bl25, i26, ⟨oc19, H, Ho20⟩, rfl, HS⟩
 rcases k_ with _ | k35
 · exact no_ H
 replace H : impl_run_cutHeads.b0 t5 (impl_run_cutHeads.l0 t5 k35) k35 u21 xs22 i26 = some oc19 := H
 unfold impl_run_cutHeads.b0 at H
 refine sr_ fun _ hK36 => ?_
 refine b_ bin_lss ?_
 refine dn_ hK36 (WC.seq fun _ hK37 => ?_)
 rcases eti_ H with ⟨c38, H⟩ | ⟨c38, H⟩
 · refine wn_ (dF c38) (WC.exit ?_)
   obtain rfl := os H
   exact wv_ iq X28 ⟨u21, xs22, v23, I24, bl25, i26, Ho20, rfl, HS⟩
 refine wy_ (dT c38) (WC.skip (via_ hK37 (WC.seq fun _ hK39 => ?_)))
 refine WC.block (sr_ fun _ hK40 => ?_)
 obtain ⟨⟨q41, q42⟩, H⟩ := if_some H
 obtain ⟨ad43, rfl⟩ := C_open (HS.getN 0 rfl) (lenpos q41 q42)
 refine v_ (ia_ underlying26 1 q41 q42) ?_
 obtain ⟨A44, c45, le46, HS⟩ := HS.slN 0 rfl i26 q41 q42
 refine v_ (Run.load rfl rfl underlying28 rfl (HS.getN 1 rfl)) ?_
 refine ad_ hK40 ?_
 refine sr_ fun _ hK47 => ?_
 refine mv_ ?_
 obtain ⟨t48, ha49, H⟩ := bind_some H
 refine c_ func247 (impl_CutDown.runs k35 A44 c45 (t5.1.getD i26.toNat []) t48.1 t48.2 _ (HS.getN 0 rfl) le46 ha49) ?_
 clear ha49
 rintro _ w50 ⟨v51, bl52, rfl, hO_, hb⟩
 replace HS := HS.got hb hO_
 dsimp only [List.cons_append, List.nil_append] at HS
 clear hO_
 obtain ⟨I53, bl54, HS⟩ := HS.unseal (sz := 1) rfl
 replace HS := HS.freezeN 1 (p := (rF kI t48.1.f1 I53)) rfl (fun _ hP_ _ => RepsB.reps hP_)
 dsimp only [List.eraseIdx] at HS
 refine ⟨_, rfl, ?_⟩
 clear hb
 refine mv_ ?_
 refine v_ (Run.extract rfl rfl rfl) ?_
 refine v_ (Run.extract rfl rfl rfl) ?_
 refine WL.alloc HS (v := .agg #[vi 0, sn]) (cs := #[vi 0, sn]) rfl rfl (by decide) rfl (by kernel_rfl) rfl (fun b55 w56 hb55 HS => ?_)
 obtain ⟨A58, c59, rfl⟩ := row_slice (HS.mu 1 rfl)
 refine WL.storeW HS 0 rfl rfl rfl rfl rfl rfl (oneL rfl) (by kernel_rfl) rfl (fun w57 HS => ?_)
 dsimp only [List.set] at HS
 refine ad_ hK47 ?_
 refine sr_ fun _ hK60 => ?_
 refine mv_ ?_
 refine mv_ ?_
 rcases ite_ H with ⟨c61, H⟩ | ⟨c61, H⟩
 · refine on_ c61 ?_
   refine mv_ ?_
   refine v_ (Run.pickT rfl rfl c61 rfl) ?_
   refine ad_ hK60 ?_
   refine rg_ (mv_ ?_)
   refine v_ (ls_ (HS.mu 0 rfl) underlying67 part_all) ?_
   refine WL.val rfl rfl (by decide) (Run.lit1 (z := (.agg #[vi 0, sn])) (vs := [vi t48.1.f0, (.slice A58 t48.1.f1.length c59)]) rfl rfl rfl underlying49 (by kernel_rfl) (ble_ rfl) (ble_ rfl)) ?_
   have HS1 := HS.below (below_alloc (Below.refl _ _) (.cells #[vi t48.1.f0, (.slice A58 t48.1.f1.length c59)] 67))
   obtain ⟨q62, H⟩ := if_some H
   refine WL.append HS1 3 rfl rfl rfl (by decide) rfl (.agg #[vi 0, sn]) 32 underlying49 (by kernel_rfl) rfl (by decide) (by decide) rfl rfl [vi t48.1.f0, (.slice A58 t48.1.f1.length c59)] rfl (lit_news _ _ _) (oneL rfl) (by omega) ((xs22 ++ [(⟨t48.1.f0, t48.1.f1⟩ : S67)]).length) (by simp) (fun v63 w64 I65 hI66 HS => ?_)
   dsimp only [List.set] at HS
   clear HS1
   replace HS := HS.elsF (xs := t48.1.f1) (inner := I53) (Dk.int .i64) (fun _ _ _ h_ => ⟨h_, rfl⟩) (fun _ => (HS.getN 0 rfl))
   replace HS := HS.front 2 rfl
   dsimp only [List.eraseIdx] at HS
   replace HS := HS.seal rfl rfl
   replace HS := HS.put0 (valM dq67 (⟨t48.1.f0, t48.1.f1⟩ : S67) ([vi t48.1.f0, (.slice A58 t48.1.f1.length c59)]) (((.slice A58 t48.1.f1.length c59) : Value).ownBlock.toList ++ [])) (fun hP_ => foot_val (dq67_mk _ (⟨t48.1.f0, t48.1.f1⟩ : S67) hP_)) (fun h_ => h_) (fun _ h_ => h_)
   replace HS := HS.front 2 rfl
   dsimp only [List.eraseIdx] at HS
   replace HS := HS.front 1 rfl
   dsimp only [List.eraseIdx] at HS
   replace HS := HS.elsSnoc hI66
   refine ad_ hK39 ?_
   refine rg_ (b_ bin_add64 ?_)
   refine mv_ ?_
   refine WL.done ?_
   exact wr_ k35 iq ⟨t48.2, (xs22 ++ [(⟨t48.1.f0, t48.1.f1⟩ : S67)]), v63, I65, (bl25 ++ (((.slice A58 t48.1.f1.length c59) : Value).ownBlock.toList ++ [])), (wrap64 (i26 + 1)), ⟨_, H, Ho20⟩, rfl, (St.pk (St.forget HS 1 rfl) [0, 1] [3] rfl rfl)⟩
 refine off_ (c' := false) (bF c61) ?_
 refine v_ (Run.pickF rfl rfl (bF c61) rfl) ?_
 refine ad_ hK60 ?_
 refine rg_ (mv_ ?_)
 refine v_ (ls_ (HS.mu 0 rfl) underlying67 part_all) ?_
 refine WL.val rfl rfl (by decide) (Run.lit1 (z := (.agg #[vi 0, sn])) (vs := [vi t48.1.f0, (.slice A58 t48.1.f1.length c59)]) rfl rfl rfl underlying49 (by kernel_rfl) (ble_ rfl) (ble_ rfl)) ?_
 have HS1 := HS.below (below_alloc (Below.refl _ _) (.cells #[vi t48.1.f0, (.slice A58 t48.1.f1.length c59)] 67))
 obtain ⟨q67, H⟩ := if_some H
 refine WL.append HS1 3 rfl rfl rfl (by decide) rfl (.agg #[vi 0, sn]) 32 underlying49 (by kernel_rfl) rfl (by decide) (by decide) rfl rfl [vi t48.1.f0, (.slice A58 t48.1.f1.length c59)] rfl (lit_news _ _ _) (oneL rfl) (by omega) ((xs22 ++ [(⟨t48.1.f0, t48.1.f1⟩ : S67)]).length) (by simp) (fun v68 w69 I70 hI71 HS => ?_)
 dsimp only [List.set] at HS
 clear HS1
 replace HS := HS.elsF (xs := t48.1.f1) (inner := I53) (Dk.int .i64) (fun _ _ _ h_ => ⟨h_, rfl⟩) (fun _ => (HS.getN 0 rfl))
 replace HS := HS.front 2 rfl
 dsimp only [List.eraseIdx] at HS
 replace HS := HS.seal rfl rfl
 replace HS := HS.put0 (valM dq67 (⟨t48.1.f0, t48.1.f1⟩ : S67) ([vi t48.1.f0, (.slice A58 t48.1.f1.length c59)]) (((.slice A58 t48.1.f1.length c59) : Value).ownBlock.toList ++ [])) (fun hP_ => foot_val (dq67_mk _ (⟨t48.1.f0, t48.1.f1⟩ : S67) hP_)) (fun h_ => h_) (fun _ h_ => h_)
 replace HS := HS.front 2 rfl
 dsimp only [List.eraseIdx] at HS
 replace HS := HS.front 1 rfl
 dsimp only [List.eraseIdx] at HS
 replace HS := HS.elsSnoc hI71
 refine ad_ hK39 ?_
 refine rg_ (b_ bin_add64 ?_)
 refine mv_ ?_
 refine WL.done ?_
 exact wr_ k35 iq ⟨false, (xs22 ++ [(⟨t48.1.f0, t48.1.f1⟩ : S67)]), v68, I70, (bl25 ++ (((.slice A58 t48.1.f1.length c59) : Value).ownBlock.toList ++ [])), (wrap64 (i26 + 1)), ⟨_, H, Ho20⟩, rfl, (St.pk (St.forget HS 1 rfl) [0, 1] [3] rfl rfl)⟩
def impl_run_keyValue.g (k : Nat) (x0 : S157) (a1 : Int) (a2 : Int) (l3 : List Int) : Option ((List S67) × (List S67) × Bool) := (if 0 ≤ a1 ∧ a1 < (x0.f0.f5.length : Int) then ((impl_Norm.g k l3 ((x0.f0.f5.getD a1.toNat o118).f0)).bind fun t22 => (if t22.2 = true then ((impl_run_turned.g k x0 ((x0.f0.f5.getD a1.toNat o118).f2) a2 t22.1).bind fun t41 => ((impl_run_apply.g k x0 ((x0.f0.f5.getD a1.toNat o118).f3) t22.1).bind fun t57 => (if t41.2 = true then (if t57.2 = true then ((impl_run_cutHeads.g k x0 t41.1).bind fun t69 => ((impl_run_cutHeads.g k x0 t57.1).bind fun t77 => (if t69.2 = true then (if t77.2 = true then (some (t69.1, t77.1, true)) else (some ([], [], false))) else (some ([], [], false))))) else (some ([], [], false))) else (some ([], [], false))))) else (some ([], [], false)))) else none)
theorem impl_run_keyValue.runs (k : Nat) (cs0 : List Value) (x0 : S157) (a1 : Int) (a2 : Int) (A3 : Option Addr) (c3 : Nat) (l3 : List Int) (r1 : List S67) (r2 : List S67) (r3 : Bool) (w : World) (hk0 : k157.K w x0 cs0) (hr3 : kI.C w A3 l3.length l3) (hc3 : l3.length ≤ c3) (H : impl_run_keyValue.g k x0 a1 a2 l3 = some (r1, r2, r3)) :
   Calls prog 104 #[.agg cs0.toArray, vi a1, vi a2, .slice A3 l3.length c3] w fun e w' => ∃ (v0_ : Value) (bl0_ : List Nat) (v1_ : Value) (bl1_ : List Nat), e = .returned (.tuple #[v0_, v1_, .bool r3]) ∧ Owns w' w.heap.size [valM (Dk.slice 67 dq67) r1 [v0_] bl0_, valM (Dk.slice 67 dq67) r2 [v1_] bl1_] ∧ Below w.heap.size w w' := by
 have el0 : cs0.length = 15 := k157.K_len hk0
 unfold impl_run_keyValue.g at H
 have HS : St (fun _ => True) w w [] [(kF k157 x0 cs0), (cF kI A3 l3)] [] := St.start (foot_cons (foot_K h157 hk0) (foot_cons (foot_C (Kd.heap_int _) hr3) foot_nil))
 refine cw_ (n := 78) func104 fun R_ hR_ => ?_
 refine sr_ fun _ hK1 => ?_
 refine bo_ HS (fun b2 w3 hb2 HS => ?_)
 refine fast_ ?_
 refine via_ hK1 (sr_ fun _ hK4 => ?_)
 refine v_ (fa_ underlying157) ?_
 refine v_ (fa_ underlying34) ?_
 obtain ⟨A5, c6, hc7, le8, HS⟩ := HS.sO 0 rfl at157_5
 refine v_ (lb_ (HS.mu 0 rfl) underlying27 hc7) ?_
 refine mv_ ?_
 obtain ⟨⟨q9, q10⟩, H⟩ := if_some H
 obtain ⟨ad11, rfl⟩ := C_open (HS.getO 0 rfl) (lenpos q9 q10)
 refine v_ (ia_ underlying27 32 q9 q10) ?_
 obtain ⟨e12, el13, HS⟩ := HS.elO 0 rfl (by decide) o118 a1 q9 q10
 replace HS := HS.deriveO (p := (kF k118 (x0.f0.f5.getD a1.toNat o118) e12)) (fun W_ hO_ hN_ => hO_.1.1)
 refine v_ (Run.loadS (cs := e12) rfl rfl underlying118 rfl (by rw [el13]; kernel_rfl) (HS.getO 1 rfl).2) ?_
 refine WL.alloc HS (v := .agg zz1) (cs := zz1) rfl rfl (by decide) rfl (by kernel_rfl) rfl (fun b14 w15 hb14 HS => ?_)
 refine WL.storeS HS 0 rfl rfl rfl rfl rfl rfl (Kd.K_one _ (HS.getO 0 rfl)) (by rw [el13]; kernel_rfl) (by rw [el13]; decide) (splice_all (by rw [el13]; rfl)) (fun w16 HS => ?_)
 dsimp only [List.set] at HS
 refine dn_ hK4 (sr_ fun _ hK17 => ?_)
 refine mv_ ?_
 refine v_ (fa_ underlying118) ?_
 obtain ⟨A18, c19, hc20, le21, HS⟩ := HS.sO 0 rfl at118_0
 refine v_ (lb_ (HS.mu 0 rfl) underlying28 hc20) ?_
 obtain ⟨t22, ha23, H⟩ := bind_some H
 refine c_ func183 (impl_Norm.runs k A3 c3 l3 A18 c19 ((x0.f0.f5.getD a1.toNat o118).f0) t22.1 t22.2 _ (HS.getO 5 rfl) hc3 (HS.getO 0 rfl) le21 ha23) ?_
 clear ha23
 rintro _ w24 ⟨A25, c26, rfl, le27, hf28, hb⟩
 replace HS := HS.newNs hb (foot_cons hf28 foot_nil)
 refine ⟨_, rfl, ?_⟩
 clear hb
 refine mv_ ?_
 refine v_ (Run.extract rfl rfl rfl) ?_
 refine v_ (Run.extract rfl rfl rfl) ?_
 refine as_ ?_
 refine ad_ hK17 ?_
 refine WC.seq fun _ hK29 => ?_
 refine sr_ fun _ hK30 => ?_
 refine mv_ ?_
 refine nt_ ?_
 refine dn_ hK30 ?_
 rcases eti_ H with ⟨c31, H⟩ | ⟨c31, H⟩
 · refine wy_ (nB (bF c31)) (sr_ fun _ hK97 => ?_)
   refine fast_ ?_
   refine via_ hK97 (WC.ret ?_)
   replace HS := HS.nilV (α := S67) 67 (dq67)
   replace HS := HS.nilV (α := S67) 67 (dq67)
   obtain ⟨rfl, rfl, rfl⟩ := (by have h_ := os H; simp only [Prod.mk.injEq] at h_; exact h_)
   exact fin3 Tryz.f104 rfl rfl rfl rfl hR_ ⟨_, _, _, _, rfl, (St.owns (St.front (St.front (St.forget (St.forget HS 3 rfl) 2 rfl) 0 rfl) 1 rfl)), HS.b⟩
 refine wn_ (nB c31) (WC.skip (via_ hK29 (sr_ fun _ hK32 => ?_)))
 refine v_ (Run.loadS (cs := cs0) rfl rfl underlying157 rfl (by rw [el0]; kernel_rfl) (box_part (HS.mu 1 rfl) part_all)) ?_
 refine v_ (fa_ underlying118) ?_
 obtain ⟨A33, c34, hc35, le36, HS⟩ := HS.sO 1 rfl at118_7
 obtain ⟨A37, c38, hc39, le40, HS⟩ := HS.sO 2 rfl at118_8
 refine v_ (ls_ (HS.mu 0 rfl) underlying30 (part_cons (at118_6 (HS.aO 3 rfl)).int (part_cons hc35 (part_cons hc39 (part_cons (at118_9 (HS.aO 3 rfl)).int (part_cons (at118_10 (HS.aO 3 rfl)).int part_nil)))))) ?_
 refine mv_ ?_
 refine mv_ ?_
 obtain ⟨t41, ha42, H⟩ := bind_some H
 refine c_ func184 (impl_run_turned.runs k cs0 x0 ((x0.f0.f5.getD a1.toNat o118).f2) A33 c34 A37 c38 a2 A25 c26 t22.1 t41.1 t41.2 _ (HS.getO 6 rfl) (HS.getO 1 rfl) le36 (HS.getO 0 rfl) le40 (HS.getN 0 rfl) le27 ha42) ?_
 clear ha42
 rintro _ w43 ⟨A44, c45, rfl, le46, hf47, hb⟩
 replace HS := HS.newNs hb (foot_cons hf47 foot_nil)
 refine ⟨_, rfl, ?_⟩
 clear hb
 refine mv_ ?_
 refine v_ (Run.extract rfl rfl rfl) ?_
 refine v_ (Run.extract rfl rfl rfl) ?_
 refine as_ ?_
 refine ad_ hK32 ?_
 refine sr_ fun _ hK48 => ?_
 refine v_ (Run.loadS (cs := cs0) rfl rfl underlying157 rfl (by rw [el0]; kernel_rfl) (box_part (HS.mu 1 rfl) part_all)) ?_
 refine v_ (fa_ underlying118) ?_
 obtain ⟨A49, c50, hc51, le52, HS⟩ := HS.sO 3 rfl at118_12
 obtain ⟨A53, c54, hc55, le56, HS⟩ := HS.sO 4 rfl at118_13
 refine v_ (ls_ (HS.mu 0 rfl) underlying30 (part_cons (at118_11 (HS.aO 5 rfl)).int (part_cons hc51 (part_cons hc55 (part_cons (at118_14 (HS.aO 5 rfl)).int (part_cons (at118_15 (HS.aO 5 rfl)).int part_nil)))))) ?_
 refine mv_ ?_
 obtain ⟨t57, ha58, H⟩ := bind_some H
 refine c_ func185 (impl_run_apply.runs k cs0 x0 ((x0.f0.f5.getD a1.toNat o118).f3) A49 c50 A53 c54 A25 c26 t22.1 t57.1 t57.2 _ (HS.getO 8 rfl) (HS.getO 1 rfl) le52 (HS.getO 0 rfl) le56 (HS.getN 1 rfl) le27 ha58) ?_
 clear ha58
 rintro _ w59 ⟨A60, c61, rfl, le62, hf63, hb⟩
 replace HS := HS.newNs hb (foot_cons hf63 foot_nil)
 refine ⟨_, rfl, ?_⟩
 clear hb
 refine mv_ ?_
 refine v_ (Run.extract rfl rfl rfl) ?_
 refine v_ (Run.extract rfl rfl rfl) ?_
 refine as_ ?_
 refine ad_ hK48 ?_
 refine WC.seq fun _ hK64 => ?_
 refine sr_ fun _ hK65 => ?_
 refine mv_ ?_
 refine nt_ ?_
 refine mv_ ?_
 rcases eti_ H with ⟨c66, H⟩ | ⟨c66, H⟩
 · refine off_ (c' := true) (nB (bF c66)) ?_
   refine off_ (c' := true) (nB (bF c66)) ?_
   refine v_ (Run.pickT rfl rfl (nB (bF c66)) rfl) ?_
   refine dn_ hK65 (wy_ rfl ?_)
   refine sr_ fun _ hK96 => ?_
   refine fast_ ?_
   refine via_ hK96 (WC.ret ?_)
   replace HS := HS.nilV (α := S67) 67 (dq67)
   replace HS := HS.nilV (α := S67) 67 (dq67)
   obtain ⟨rfl, rfl, rfl⟩ := (by have h_ := os H; simp only [Prod.mk.injEq] at h_; exact h_)
   exact fin3 Tryz.f104 rfl rfl rfl rfl hR_ ⟨_, _, _, _, rfl, (St.owns (St.front (St.front (St.forget (St.forget HS 3 rfl) 2 rfl) 0 rfl) 1 rfl)), HS.b⟩
 refine on_ (nB c66) (mv_ ?_)
 refine on_ (nB c66) (nt_ ?_)
 refine v_ (Run.pickF rfl rfl (nB c66) rfl) ?_
 refine dn_ hK65 ?_
 rcases eti_ H with ⟨c67, H⟩ | ⟨c67, H⟩
 · refine wy_ (nB (bF c67)) (sr_ fun _ hK95 => ?_)
   refine fast_ ?_
   refine via_ hK95 (WC.ret ?_)
   replace HS := HS.nilV (α := S67) 67 (dq67)
   replace HS := HS.nilV (α := S67) 67 (dq67)
   obtain ⟨rfl, rfl, rfl⟩ := (by have h_ := os H; simp only [Prod.mk.injEq] at h_; exact h_)
   exact fin3 Tryz.f104 rfl rfl rfl rfl hR_ ⟨_, _, _, _, rfl, (St.owns (St.front (St.front (St.forget (St.forget HS 3 rfl) 2 rfl) 0 rfl) 1 rfl)), HS.b⟩
 refine wn_ (nB c67) (WC.skip (via_ hK64 (sr_ fun _ hK68 => ?_)))
 refine v_ (Run.loadS (cs := cs0) rfl rfl underlying157 rfl (by rw [el0]; kernel_rfl) (box_part (HS.mu 1 rfl) part_all)) ?_
 refine mv_ ?_
 obtain ⟨t69, ha70, H⟩ := bind_some H
 refine c_ func186 (impl_run_cutHeads.runs k cs0 x0 A44 c45 t41.1 t69.1 t69.2 _ (HS.getO 8 rfl) (HS.getN 1 rfl) le46 ha70) ?_
 clear ha70
 rintro _ w71 ⟨v72, bl73, rfl, hO_, hb⟩
 replace HS := HS.got hb hO_
 dsimp only [List.cons_append, List.nil_append] at HS
 clear hO_
 obtain ⟨I74, bl75, HS⟩ := HS.unseal (sz := 2) rfl
 refine ⟨_, rfl, ?_⟩
 clear hb
 refine mv_ ?_
 refine v_ (Run.extract rfl rfl rfl) ?_
 refine v_ (Run.extract rfl rfl rfl) ?_
 refine as_ ?_
 refine ad_ hK68 ?_
 refine sr_ fun _ hK76 => ?_
 refine v_ (Run.loadS (cs := cs0) rfl rfl underlying157 rfl (by rw [el0]; kernel_rfl) (box_part (HS.mu 3 rfl) part_all)) ?_
 refine mv_ ?_
 obtain ⟨t77, ha78, H⟩ := bind_some H
 refine c_ func186 (impl_run_cutHeads.runs k cs0 x0 A60 c61 t57.1 t77.1 t77.2 _ (HS.getO 8 rfl) (HS.getN 0 rfl) le62 ha78) ?_
 clear ha78
 rintro _ w79 ⟨v80, bl81, rfl, hO_, hb⟩
 replace HS := HS.got hb hO_
 dsimp only [List.cons_append, List.nil_append] at HS
 clear hO_
 obtain ⟨I82, bl83, HS⟩ := HS.unseal (sz := 2) rfl
 refine ⟨_, rfl, ?_⟩
 clear hb
 refine mv_ ?_
 refine v_ (Run.extract rfl rfl rfl) ?_
 refine v_ (Run.extract rfl rfl rfl) ?_
 refine as_ ?_
 refine ad_ hK76 ?_
 refine WC.seq fun _ hK84 => ?_
 refine sr_ fun _ hK85 => ?_
 refine mv_ ?_
 refine nt_ ?_
 refine mv_ ?_
 rcases eti_ H with ⟨c86, H⟩ | ⟨c86, H⟩
 · refine off_ (c' := true) (nB (bF c86)) ?_
   refine off_ (c' := true) (nB (bF c86)) ?_
   refine v_ (Run.pickT rfl rfl (nB (bF c86)) rfl) ?_
   refine dn_ hK85 (wy_ rfl ?_)
   refine sr_ fun _ hK94 => ?_
   refine fast_ ?_
   refine via_ hK94 (WC.ret ?_)
   replace HS := HS.nilV (α := S67) 67 (dq67)
   replace HS := HS.nilV (α := S67) 67 (dq67)
   obtain ⟨rfl, rfl, rfl⟩ := (by have h_ := os H; simp only [Prod.mk.injEq] at h_; exact h_)
   exact fin3 Tryz.f104 rfl rfl rfl rfl hR_ ⟨_, _, _, _, rfl, (St.owns (St.front (St.front (St.forget (St.forget (St.forget (St.forget (St.forget (St.forget HS 7 rfl) 6 rfl) 5 rfl) 4 rfl) 3 rfl) 2 rfl) 0 rfl) 1 rfl)), HS.b⟩
 refine on_ (nB c86) (mv_ ?_)
 refine on_ (nB c86) (nt_ ?_)
 refine v_ (Run.pickF rfl rfl (nB c86) rfl) ?_
 refine dn_ hK85 ?_
 rcases eti_ H with ⟨c87, H⟩ | ⟨c87, H⟩
 · refine wy_ (nB (bF c87)) (sr_ fun _ hK93 => ?_)
   refine fast_ ?_
   refine via_ hK93 (WC.ret ?_)
   replace HS := HS.nilV (α := S67) 67 (dq67)
   replace HS := HS.nilV (α := S67) 67 (dq67)
   obtain ⟨rfl, rfl, rfl⟩ := (by have h_ := os H; simp only [Prod.mk.injEq] at h_; exact h_)
   exact fin3 Tryz.f104 rfl rfl rfl rfl hR_ ⟨_, _, _, _, rfl, (St.owns (St.front (St.front (St.forget (St.forget (St.forget (St.forget (St.forget (St.forget HS 7 rfl) 6 rfl) 5 rfl) 4 rfl) 3 rfl) 2 rfl) 0 rfl) 1 rfl)), HS.b⟩
 refine wn_ (nB c87) (WC.skip (via_ hK84 (sr_ fun _ hK88 => ?_)))
 refine fast_ ?_
 refine via_ hK88 (WC.ret ?_)
 obtain ⟨A89, c90, rfl⟩ := row_slice (HS.mu 2 rfl)
 obtain ⟨A91, c92, rfl⟩ := row_slice (HS.mu 0 rfl)
 replace HS := HS.front 3 rfl
 dsimp only [List.eraseIdx] at HS
 replace HS := HS.front 3 rfl
 dsimp only [List.eraseIdx] at HS
 replace HS := HS.seal rfl rfl
 replace HS := HS.front 2 rfl
 dsimp only [List.eraseIdx] at HS
 replace HS := HS.front 2 rfl
 dsimp only [List.eraseIdx] at HS
 replace HS := HS.seal rfl rfl
 obtain ⟨rfl, rfl, rfl⟩ := (by have h_ := os H; simp only [Prod.mk.injEq] at h_; exact h_)
 exact fin3 Tryz.f104 rfl rfl rfl rfl hR_ ⟨_, _, _, _, rfl, (St.owns (St.front (St.front (St.forget (St.forget HS 3 rfl) 2 rfl) 0 rfl) 1 rfl)), HS.b⟩
def impl_KeyValue.g (k : Nat) (x0 : S34) (a1 : Int) (a2 : Int) (l3 : List Int) : Option ((List S67) × (List S67) × Bool) := ((impl_placeOk.g k x0 a1 a2).bind fun t6 => (if t6 = true then ((impl_run_keyValue.g k (⟨x0, ()⟩ : S157) a1 a2 l3).bind fun t12 => (some (t12.1, t12.2.1, t12.2.2))) else (some ([], [], false))))
theorem impl_KeyValue.runs (k : Nat) (cs0 : List Value) (x0 : S34) (a1 : Int) (a2 : Int) (A3 : Option Addr) (c3 : Nat) (l3 : List Int) (r1 : List S67) (r2 : List S67) (r3 : Bool) (w : World) (hk0 : k34.K w x0 cs0) (hr3 : kI.C w A3 l3.length l3) (hc3 : l3.length ≤ c3) (H : impl_KeyValue.g k x0 a1 a2 l3 = some (r1, r2, r3)) :
   Calls prog 22 #[.agg cs0.toArray, vi a1, vi a2, .slice A3 l3.length c3] w fun e w' => ∃ (v0_ : Value) (bl0_ : List Nat) (v1_ : Value) (bl1_ : List Nat), e = .returned (.tuple #[v0_, v1_, .bool r3]) ∧ Owns w' w.heap.size [valM (Dk.slice 67 dq67) r1 [v0_] bl0_, valM (Dk.slice 67 dq67) r2 [v1_] bl1_] ∧ Below w.heap.size w w' := by
 have el0 : cs0.length = 14 := k34.K_len hk0
 unfold impl_KeyValue.g at H
 have HS : St (fun _ => True) w w [] [(kF k34 x0 cs0), (cF kI A3 l3)] [] := St.start (foot_cons (foot_K h34 hk0) (foot_cons (foot_C (Kd.heap_int _) hr3) foot_nil))
 refine cw_ (n := 25) func22 fun R_ hR_ => ?_
 refine sr_ fun _ hK1 => ?_
 refine bo_ HS (fun b2 w3 hb2 HS => ?_)
 refine fast_ ?_
 refine via_ hK1 (WC.seq fun _ hK4 => ?_)
 refine sr_ fun _ hK5 => ?_
 refine v_ (Run.loadS (cs := cs0) rfl rfl underlying34 rfl (by rw [el0]; kernel_rfl) (box_part (HS.mu 0 rfl) part_all)) ?_
 refine mv_ ?_
 refine mv_ ?_
 obtain ⟨t6, ha7, H⟩ := bind_some H
 refine cs_ HS func103 (impl_placeOk.runs k cs0 x0 a1 a2 t6 _ (HS.getO 0 rfl) ha7) (fun w8 HS => ?_)
 clear ha7
 refine nt_ ?_
 refine dn_ hK5 ?_
 rcases eti_ H with ⟨c9, H⟩ | ⟨c9, H⟩
 · refine wy_ (nB (bF c9)) (sr_ fun _ hK27 => ?_)
   refine fast_ ?_
   refine via_ hK27 (WC.ret ?_)
   replace HS := HS.nilV (α := S67) 67 (dq67)
   replace HS := HS.nilV (α := S67) 67 (dq67)
   obtain ⟨rfl, rfl, rfl⟩ := (by have h_ := os H; simp only [Prod.mk.injEq] at h_; exact h_)
   exact fin3 Tryz.f22 rfl rfl rfl rfl hR_ ⟨_, _, _, _, rfl, (St.owns (St.front (St.front (St.forget HS 2 rfl) 0 rfl) 1 rfl)), HS.b⟩
 refine wn_ (nB c9) (WC.skip (via_ hK4 (sr_ fun _ hK10 => ?_)))
 refine v_ (Run.loadS (cs := cs0) rfl rfl underlying34 rfl (by rw [el0]; kernel_rfl) (box_part (HS.mu 0 rfl) part_all)) ?_
 replace HS := HS.deriveO (p := (kF k157 (⟨x0, ()⟩ : S157) (cs0 ++ [Value.pointer none]))) (fun W_ hO_ hN_ => ⟨cs0, [Value.pointer none], rfl, hO_.1, rfl⟩)
 have el11 : (cs0 ++ [Value.pointer none]).length = 15 := by rw [List.length_append, el0]; rfl
 refine v_ (Run.build (cells := (cs0 ++ [Value.pointer none]).toArray) rfl [(0, .agg cs0.toArray)] ⟨⟨rfl, rfl⟩, trivial⟩ (by obtain ⟨v_, e_⟩ := ex_lit _ _ el0; rw [e_]; kernel_rfl)) ?_
 refine mv_ ?_
 refine mv_ ?_
 refine mv_ ?_
 obtain ⟨t12, ha13, H⟩ := bind_some H
 refine c_ func104 (impl_run_keyValue.runs k (cs0 ++ [Value.pointer none]) (⟨x0, ()⟩ : S157) a1 a2 A3 c3 l3 t12.1 t12.2.1 t12.2.2 _ (HS.getO 0 rfl) (HS.getO 2 rfl) hc3 ha13) ?_
 clear ha13
 rintro _ w14 ⟨v15, bl16, v17, bl18, rfl, hO_, hb⟩
 replace HS := HS.got hb hO_
 dsimp only [List.cons_append, List.nil_append] at HS
 clear hO_
 obtain ⟨I19, bl20, HS⟩ := HS.unseal (sz := 2) rfl
 replace HS := HS.front 2 rfl
 dsimp only [List.eraseIdx] at HS
 obtain ⟨I21, bl22, HS⟩ := HS.unseal (sz := 2) rfl
 refine ⟨_, rfl, ?_⟩
 clear hb
 refine v_ (Run.extract rfl rfl rfl) ?_
 refine v_ (Run.extract rfl rfl rfl) ?_
 refine v_ (Run.extract rfl rfl rfl) ?_
 refine fast_ ?_
 refine via_ hK10 (WC.ret ?_)
 obtain ⟨A23, c24, rfl⟩ := row_slice (HS.mu 2 rfl)
 obtain ⟨A25, c26, rfl⟩ := row_slice (HS.mu 0 rfl)
 replace HS := HS.front 3 rfl
 dsimp only [List.eraseIdx] at HS
 replace HS := HS.front 3 rfl
 dsimp only [List.eraseIdx] at HS
 replace HS := HS.seal rfl rfl
 replace HS := HS.front 2 rfl
 dsimp only [List.eraseIdx] at HS
 replace HS := HS.front 2 rfl
 dsimp only [List.eraseIdx] at HS
 replace HS := HS.seal rfl rfl
 obtain ⟨rfl, rfl, rfl⟩ := (by have h_ := os H; simp only [Prod.mk.injEq] at h_; exact h_)
 exact fin3 Tryz.f22 rfl rfl rfl rfl hR_ ⟨_, _, _, _, rfl, (St.owns (St.front (St.front (St.forget HS 2 rfl) 0 rfl) 1 rfl)), HS.b⟩
theorem laws_markIntS.leaf (A : Option Addr) (n c : Nat) (z : Int) (L : List Addr) (w : World) (h : XLeaf.RowLv w .int A n L) (h0 : 0 ≤ z) (h1 : z + (L.length : Int) ≤ 4611686018427387904) (r : Int) (hr0 : r = z + (L.length : Int)) :
   Calls prog 25 #[.slice A n c, vi z] w fun e w' => e = .returned (vi r) ∧ XLeaf.Marked L z w w' := by
 obtain ⟨f, rfl, HJ⟩ := MkJ.start h h0 h1
 clear h h0
 refine cw_ (n := 19) func25 fun R_ hR_ => ?_
 refine WC.seq fun _ hKa => ?_
 refine rg_ ?_
 refine as_ ?_
 refine WL.done ?_
 refine via_ hKa ?_
 refine WC.seq fun _ hKb => ?_
 refine WC.seq fun _ hKc => ?_
 refine rg_ ?_
 refine as_ ?_
 refine WL.done ?_
 refine via_ hKc ?_
 refine WC.block ?_
 refine WC.loop (fun k_ E_ W_ => ∃ (j : Nat) (y : Int), k_ + j = n ∧ E_ = [(0, .slice A n c), (1, vi y), (5, vi (j : Int))] ∧ MkJ w W_ z .int A n f j y) n ⟨0, z, rfl, rfl, HJ⟩ (sb rfl) ?_
 rintro k_ E_ W ⟨j, y, hk, rfl, HJ⟩
 refine WC.seq fun _ hKd => ?_
 refine WC.seq fun _ hKe => ?_
 refine rg_ ?_
 refine mv_ ?_
 refine mv_ ?_
 refine ln_ underlying28 ?_
 refine b_ bin_lss ?_
 refine WL.done ?_
 refine via_ hKe ?_
 by_cases hlt : (j : Int) < (n : Int)
 · refine wy_ (dT hlt) (WC.skip (via_ hKd ?_))
   obtain ⟨k1, rfl⟩ : ∃ k1, k_ = k1 + 1 := ⟨k_ - 1, by omega⟩
   obtain ⟨g, Ls, rfl, hj1, he, HI⟩ := HJ.round (by omega)
   refine WC.seq fun _ hK1 => ?_
   refine WC.block ?_
   refine WC.seq fun _ hK2 => ?_
   refine rg_ ?_
   refine mv_ ?_
   refine mv_ ?_
   refine mv_ ?_
   refine v_ (Run.eqv (ptr_at g j 1) (ia_ underlying28 1 (Int.natCast_nonneg _) hlt)) ?_
   refine WL.mset 0 HI rfl rfl (fun W5 y3 hw4 HI => ?_)
   refine WL.done ?_
   refine via_ hK2 ?_
   refine rg_ ?_
   refine mv_ ?_
   refine b_ bin_add64 ?_
   rw [hw4]
   clear hw4
   refine as_ ?_
   refine WL.done ?_
   refine via_ hK1 ?_
   refine rg_ ?_
   refine mv_ ?_
   refine b_ bin_add64 ?_
   rw [hj1]
   refine as_ ?_
   refine WL.done ?_
   exact wr_ k1 iq ⟨j + 1, _, by omega, rfl, HJ.next he HI rfl⟩
 · refine wn_ (dF hlt) (WC.exit (via_ hKb ?_))
   obtain rfl : j = n := by omega
   obtain rfl : y = r := HJ.y.trans hr0.symm
   refine WC.seq fun _ hKf => ?_
   refine rg_ ?_
   refine mv_ ?_
   refine as_ ?_
   refine WL.done ?_
   refine via_ hKf ?_
   refine WC.ret ?_
   exact fin1 Tryz.f25 rfl rfl hR_ ⟨rfl, HJ.m⟩
theorem laws_markIntSS.leaf (A : Option Addr) (n c : Nat) (z : Int) (L : List Addr) (w : World) (h : XLeaf.RowLv w (.row .int) A n L) (h0 : 0 ≤ z) (h1 : z + (L.length : Int) ≤ 4611686018427387904) (r : Int) (hr0 : r = z + (L.length : Int)) :
   Calls prog 80 #[.slice A n c, vi z] w fun e w' => e = .returned (vi r) ∧ XLeaf.Marked L z w w' := by
 obtain ⟨f, rfl, HJ⟩ := MkJ.start h h0 h1
 clear h h0
 refine cw_ (n := 19) func80 fun R_ hR_ => ?_
 refine WC.seq fun _ hKa => ?_
 refine rg_ ?_
 refine as_ ?_
 refine WL.done ?_
 refine via_ hKa ?_
 refine WC.seq fun _ hKb => ?_
 refine WC.seq fun _ hKc => ?_
 refine rg_ ?_
 refine as_ ?_
 refine WL.done ?_
 refine via_ hKc ?_
 refine WC.block ?_
 refine WC.loop (fun k_ E_ W_ => ∃ (j : Nat) (y : Int), k_ + j = n ∧ E_ = [(0, .slice A n c), (1, vi y), (5, vi (j : Int))] ∧ MkJ w W_ z (.row .int) A n f j y) n ⟨0, z, rfl, rfl, HJ⟩ (sb rfl) ?_
 rintro k_ E_ W ⟨j, y, hk, rfl, HJ⟩
 refine WC.seq fun _ hKd => ?_
 refine WC.seq fun _ hKe => ?_
 refine rg_ ?_
 refine mv_ ?_
 refine mv_ ?_
 refine ln_ underlying26 ?_
 refine b_ bin_lss ?_
 refine WL.done ?_
 refine via_ hKe ?_
 by_cases hlt : (j : Int) < (n : Int)
 · refine wy_ (dT hlt) (WC.skip (via_ hKd ?_))
   obtain ⟨k1, rfl⟩ : ∃ k1, k_ = k1 + 1 := ⟨k_ - 1, by omega⟩
   obtain ⟨g, Ls, rfl, hj1, he, HI⟩ := HJ.round (by omega)
   refine WC.seq fun _ hK1 => ?_
   refine WC.block ?_
   refine rg_ ?_
   refine mv_ ?_
   refine mv_ ?_
   refine v_ (Run.eqv (ptr_at g j 1) (ia_ underlying26 1 (Int.natCast_nonneg _) hlt)) ?_
   have h0_ := HI.y0
   obtain ⟨L2, A3, n4, c5, y6, hc7, hR8, hB9, hy10, hI11⟩ := HI.row (i := 0) rfl
   refine v_ (Run.load rfl rfl underlying28 rfl hc7) ?_
   refine mv_ ?_
   refine c_ func25 (laws_markIntS.leaf A3 n4 c5 y L2 _ hR8 h0_ hB9 y6 hy10) ?_
   rintro _ W13 ⟨rfl, hm_⟩
   replace HI := hI11 W13 hm_
   clear h0_ hm_ hI11 hR8 hB9 hy10
   refine ⟨_, rfl, ?_⟩
   refine as_ ?_
   refine WL.done ?_
   refine via_ hK1 ?_
   refine rg_ ?_
   refine mv_ ?_
   refine b_ bin_add64 ?_
   rw [hj1]
   refine as_ ?_
   refine WL.done ?_
   exact wr_ k1 iq ⟨j + 1, _, by omega, rfl, HJ.next he HI rfl⟩
 · refine wn_ (dF hlt) (WC.exit (via_ hKb ?_))
   obtain rfl : j = n := by omega
   obtain rfl : y = r := HJ.y.trans hr0.symm
   refine WC.seq fun _ hKf => ?_
   refine rg_ ?_
   refine mv_ ?_
   refine as_ ?_
   refine WL.done ?_
   refine via_ hKf ?_
   refine WC.ret ?_
   exact fin1 Tryz.f80 rfl rfl hR_ ⟨rfl, HJ.m⟩
theorem laws_markMergeS.leaf (A : Option Addr) (n c : Nat) (z : Int) (L : List Addr) (w : World) (h : XLeaf.RowLv w (.both .int .int) A n L) (h0 : 0 ≤ z) (h1 : z + (L.length : Int) ≤ 4611686018427387904) (r : Int) (hr0 : r = z + (L.length : Int)) :
   Calls prog 79 #[.slice A n c, vi z] w fun e w' => e = .returned (vi r) ∧ XLeaf.Marked L z w w' := by
 obtain ⟨f, rfl, HJ⟩ := MkJ.start h h0 h1
 clear h h0
 refine cw_ (n := 27) func79 fun R_ hR_ => ?_
 refine WC.seq fun _ hKa => ?_
 refine rg_ ?_
 refine as_ ?_
 refine WL.done ?_
 refine via_ hKa ?_
 refine WC.seq fun _ hKb => ?_
 refine WC.seq fun _ hKc => ?_
 refine rg_ ?_
 refine as_ ?_
 refine WL.done ?_
 refine via_ hKc ?_
 refine WC.block ?_
 refine WC.loop (fun k_ E_ W_ => ∃ (j : Nat) (y : Int), k_ + j = n ∧ E_ = [(0, .slice A n c), (1, vi y), (5, vi (j : Int))] ∧ MkJ w W_ z (.both .int .int) A n f j y) n ⟨0, z, rfl, rfl, HJ⟩ (sb rfl) ?_
 rintro k_ E_ W ⟨j, y, hk, rfl, HJ⟩
 refine WC.seq fun _ hKd => ?_
 refine WC.seq fun _ hKe => ?_
 refine rg_ ?_
 refine mv_ ?_
 refine mv_ ?_
 refine ln_ underlying25 ?_
 refine b_ bin_lss ?_
 refine WL.done ?_
 refine via_ hKe ?_
 by_cases hlt : (j : Int) < (n : Int)
 · refine wy_ (dT hlt) (WC.skip (via_ hKd ?_))
   obtain ⟨k1, rfl⟩ : ∃ k1, k_ = k1 + 1 := ⟨k_ - 1, by omega⟩
   obtain ⟨g, Ls, rfl, hj1, he, HI⟩ := HJ.round (by omega)
   refine WC.seq fun _ hK1 => ?_
   refine WC.block ?_
   refine WC.seq fun _ hK2 => ?_
   refine rg_ ?_
   refine mv_ ?_
   refine mv_ ?_
   refine mv_ ?_
   refine v_ (Run.eqv (ptr_at g j 2) (ia_ underlying25 2 (Int.natCast_nonneg _) hlt)) ?_
   refine v_ (Run.fieldAddr rfl rfl underlying114 rfl (by kernel_rfl) (Addr.add_mid _ _ _)) ?_
   refine WL.mset 0 HI rfl rfl (fun W5 y3 hw4 HI => ?_)
   refine WL.done ?_
   refine via_ hK2 ?_
   refine WC.seq fun _ hK6 => ?_
   refine rg_ ?_
   refine mv_ ?_
   refine b_ bin_add64 ?_
   rw [hw4]
   clear hw4
   refine as_ ?_
   refine WL.done ?_
   refine via_ hK6 ?_
   refine WC.seq fun _ hK7 => ?_
   refine rg_ ?_
   refine mv_ ?_
   refine mv_ ?_
   refine mv_ ?_
   refine v_ (Run.eqv (ptr_at g j 2) (ia_ underlying25 2 (Int.natCast_nonneg _) hlt)) ?_
   refine v_ (Run.fieldAddr rfl rfl underlying114 rfl (by kernel_rfl) (Addr.add_mid _ _ _)) ?_
   refine WL.mset 1 HI rfl rfl (fun W10 y8 hw9 HI => ?_)
   refine WL.done ?_
   refine via_ hK7 ?_
   refine rg_ ?_
   refine mv_ ?_
   refine b_ bin_add64 ?_
   rw [hw9]
   clear hw9
   refine as_ ?_
   refine WL.done ?_
   refine via_ hK1 ?_
   refine rg_ ?_
   refine mv_ ?_
   refine b_ bin_add64 ?_
   rw [hj1]
   refine as_ ?_
   refine WL.done ?_
   exact wr_ k1 iq ⟨j + 1, _, by omega, rfl, HJ.next he HI rfl⟩
 · refine wn_ (dF hlt) (WC.exit (via_ hKb ?_))
   obtain rfl : j = n := by omega
   obtain rfl : y = r := HJ.y.trans hr0.symm
   refine WC.seq fun _ hKf => ?_
   refine rg_ ?_
   refine mv_ ?_
   refine as_ ?_
   refine WL.done ?_
   refine via_ hKf ?_
   refine WC.ret ?_
   exact fin1 Tryz.f79 rfl rfl hR_ ⟨rfl, HJ.m⟩
end Go.Proofs.YtoccifnjhbibcaaGreat.PFnExactKeyValue
