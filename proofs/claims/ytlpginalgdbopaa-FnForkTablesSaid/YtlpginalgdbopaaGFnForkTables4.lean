/- Functions that the statement reaches, as Lean functions, and the proof that a call of each comes to just its answer; written by this claim's own program. No conditions. -/
import Derived.Test.YtlpginalgdbopaaGFnForkTables3
namespace Go.Proofs.Ytlpginalgdbopaa.PFnForkTables
open Try
open Go.RowKit Go.Proofs.YtlpginalgdbopaaW.PrintWords Go.Proofs.YtlpginalgdbopaaW.PrintLast Go.Proofs.YtlpginalgdbopaaW.PrintMore Go.Proofs.Ytlpginalgdbopaa.XW Go.Proofs.Ytlpginalgdbopaa.XOp Go.Proofs.Ytlpginalgdbopaa.XSt Go.Proofs.Ytlpginalgdbopaa.XDraw
set_option linter.unusedVariables false
set_option linter.unusedSimpArgs false
set_option maxHeartbeats 4000000
set_option maxRecDepth 20000
def impl_moved.g (k : Nat) (l0 : List Int) (a1 : Int) (a2 : Int) : Option ((List Int) × Bool) := ((impl_PoolOk.g k l0).bind fun t4 => (if t4 = true then ((impl_in.f a1 0 (wrap64 ((l0.length : Int) - 1))).bind fun t8 => (if t8 = true then (if 0 ≤ a1 ∧ a1 < (l0.length : Int) then (if (l0.getD a1.toNat 0) = 0 then (some ([], false)) else ((slices_Clone_int_int.g k l0).bind fun t18 => (if 0 ≤ a1 ∧ a1 < ((t18.length : Nat) : Int) then ((impl_PoolOk.g k (t18.set a1.toNat (wrap64 ((t18.getD a1.toNat 0) + a2)))).bind fun t40 => (if t40 = true then (some ((t18.set a1.toNat (wrap64 ((t18.getD a1.toNat 0) + a2))), true)) else (some ([], false)))) else none))) else none) else (some ([], false)))) else (some ([], false))))
theorem impl_moved.runs (k : Nat) (A0 : Option Addr) (c0 : Nat) (l0 : List Int) (a1 : Int) (a2 : Int) (r1 : List Int) (r2 : Bool) (w : World) (hr0 : kI.C w A0 l0.length l0) (hc0 : l0.length ≤ c0) (H : impl_moved.g k l0 a1 a2 = some (r1, r2)) :
   Calls prog 149 #[.slice A0 l0.length c0, vi a1, vi a2] w fun e w' => ∃ (v0_ : Value) (bl0_ : List Nat), e = .returned (.tuple #[v0_, .bool r2]) ∧ Owns w' w.heap.size [valM (Dk.slice 3 (Dk.int .i64)) r1 [v0_] bl0_] ∧ Below w.heap.size w w' := by
 unfold impl_moved.g at H
 have HS : St (fun _ => True) w w [] [(cF kI A0 l0)] [] := St.start (foot_cons (foot_C (Kd.heap_int _) hr0) foot_nil)
 refine cw_ (n := 40) func149 fun R_ hR_ => ?_
 refine sr_ fun _ hK1 => ?_
 refine as_ ?_
 refine ad_ hK1 ?_
 refine WC.seq fun _ hK2 => ?_
 refine sr_ fun _ hK3 => ?_
 refine mv_ ?_
 obtain ⟨t4, ha5, H⟩ := bind_some H
 refine cs_ HS func117 (impl_PoolOk.runs k A0 c0 l0 t4 _ (HS.getO 0 rfl) hc0 ha5) (fun w6 HS => ?_)
 clear ha5
 refine nt_ ?_
 refine mv_ ?_
 rcases eti_ H with ⟨c7, H⟩ | ⟨c7, H⟩
 · refine off_ (c' := true) (nB (bF c7)) ?_
   refine WL.know 12 (nB (bF c7)) ?_
   refine fast_ ?_
   refine via_ hK3 (wy_ rfl ?_)
   refine sr_ fun _ hK47 => ?_
   refine as_ ?_
   refine ad_ hK47 ?_
   refine WC.ret ?_
   replace HS := HS.nilV (α := Int) 3 (Dk.int .i64)
   obtain ⟨rfl, rfl⟩ := Prod.mk.inj (os H)
   exact fin2 Try.f149 rfl rfl rfl hR_ ⟨_, _, rfl, (St.owns HS), HS.b⟩
 refine on_ (nB c7) (mv_ ?_)
 refine on_ (nB c7) (mv_ ?_)
 refine on_ (nB c7) (ln_ underlying22 ?_)
 refine on_ (nB c7) (b_ bin_sub64 ?_)
 refine on_ (nB c7) ?_
 obtain ⟨t8, ha9, H⟩ := bind_some H
 refine cs0_ HS func77 (impl_in.calls a1 0 (wrap64 ((l0.length : Int) - 1)) t8 _ ha9) (fun w10 HS => ?_)
 clear ha9
 refine on_ (nB c7) (nt_ ?_)
 refine v_ (Run.pickF rfl rfl (nB c7) rfl) ?_
 refine mv_ ?_
 rcases eti_ H with ⟨c11, H⟩ | ⟨c11, H⟩
 · refine off_ (c' := true) (nB (bF c11)) ?_
   refine WL.know 20 (nB (bF c11)) ?_
   refine fast_ ?_
   refine via_ hK3 (wy_ rfl ?_)
   refine sr_ fun _ hK46 => ?_
   refine as_ ?_
   refine ad_ hK46 ?_
   refine WC.ret ?_
   replace HS := HS.nilV (α := Int) 3 (Dk.int .i64)
   obtain ⟨rfl, rfl⟩ := Prod.mk.inj (os H)
   exact fin2 Try.f149 rfl rfl rfl hR_ ⟨_, _, rfl, (St.owns HS), HS.b⟩
 refine on_ (nB c11) (mv_ ?_)
 refine on_ (nB c11) (mv_ ?_)
 refine on_ (nB c11) ?_
 obtain ⟨⟨q12, q13⟩, H⟩ := if_some H
 obtain ⟨ad14, rfl⟩ := C_open (HS.getO 0 rfl) (by omega)
 refine v_ (ia_ underlying22 1 q12 q13) ?_
 refine on_ (nB c11) (v_ (Run.load rfl rfl underlying3 rfl (int_cell (HS.getO 0 rfl) a1 q12 q13)) ?_)
 refine on_ (nB c11) (b_ bin_eql ?_)
 refine v_ (Run.pickF rfl rfl (nB c11) rfl) ?_
 refine dn_ hK3 ?_
 rcases ite_ H with ⟨c15, H⟩ | ⟨c15, H⟩
 · refine wy_ (eT c15) (sr_ fun _ hK16 => ?_)
   refine as_ ?_
   refine ad_ hK16 ?_
   refine WC.ret ?_
   replace HS := HS.nilV (α := Int) 3 (Dk.int .i64)
   obtain ⟨rfl, rfl⟩ := Prod.mk.inj (os H)
   exact fin2 Try.f149 rfl rfl rfl hR_ ⟨_, _, rfl, (St.owns HS), HS.b⟩
 refine wn_ (eF c15) (WC.skip (via_ hK2 (sr_ fun _ hK17 => ?_)))
 refine mv_ ?_
 obtain ⟨t18, ha19, H⟩ := bind_some H
 refine c_ func78 (slices_Clone_int_int.runs k (some ad14) c0 l0 t18 _ (HS.getO 0 rfl) hc0 ha19) ?_
 clear ha19
 rintro _ w20 ⟨v21, bl22, rfl, hO_, hb⟩
 replace HS := HS.got hb hO_
 dsimp only [List.cons_append, List.nil_append] at HS
 clear hO_
 obtain ⟨I23, bl24, HS⟩ := HS.unseal (sz := 1) rfl
 replace HS := HS.freezeN 1 (p := (rF kI t18 I23)) rfl (fun _ hP_ _ => RepsB.reps hP_)
 dsimp only [List.eraseIdx] at HS
 refine ⟨_, rfl, ?_⟩
 clear hb
 refine ad_ hK17 ?_
 refine sr_ fun _ hK25 => ?_
 refine mv_ ?_
 refine mv_ ?_
 obtain ⟨⟨q26, q27⟩, H⟩ := if_some H
 obtain ⟨A28, c29, rfl⟩ := row_slice (HS.mu 0 rfl)
 obtain ⟨ad30, rfl⟩ := row_open (HS.mu 0 rfl) (by omega)
 refine v_ (ia_ underlying22 1 q26 q27) ?_
 refine v_ (Run.load rfl rfl underlying3 rfl (row_int (HS.mu 0 rfl) (HS.getN 0 rfl) q26 q27)) ?_
 refine mv_ ?_
 refine b_ bin_add64 ?_
 refine v_ (ia_ underlying22 1 q26 q27) ?_
 have hk_ := mul_room q26 q27 1
 refine WL.putEl HS 0 rfl rfl rfl rfl rfl rfl [vi (wrap64 ((t18.getD a1.toNat 0) + a2))] rfl (oneL rfl) (by kernel_rfl) (by first | omega | (rw [List.length_nil]; omega) | (simp; omega)) (fun w31 I32 hI33 HS => ?_)
 dsimp only [List.set] at HS
 clear hk_
 replace HS := HS.deriveN (p := (rF kI (t18.set a1.toNat (wrap64 ((t18.getD a1.toNat 0) + a2))) I32)) (fun W_ hN_ => reps_set hI33 hN_.1 (K_int _) (toNat_lt q26 q27))
 replace HS := HS.rowN 0 rfl (show t18.length = (t18.set a1.toNat (wrap64 ((t18.getD a1.toNat 0) + a2))).length from (List.length_set ..).symm)
 dsimp only [List.set] at HS
 generalize hv35 : (Value.slice (some ad30) t18.length c29) = v34 at HS ⊢
 refine dn_ hK25 (WC.seq fun _ hK36 => ?_)
 refine sr_ fun _ hK37 => ?_
 refine mv_ ?_
 obtain ⟨A38, c39, rfl⟩ := row_slice (HS.mu 0 rfl)
 obtain ⟨t40, ha41, H⟩ := bind_some H
 refine cs_ HS func117 (impl_PoolOk.runs k A38 c39 (t18.set a1.toNat (wrap64 ((t18.getD a1.toNat 0) + a2))) t40 _ (row_C rfl (HS.mu 0 rfl) (HS.getN 0 rfl)) (row_le (HS.mu 0 rfl)) ha41) (fun w42 HS => ?_)
 clear ha41
 refine nt_ ?_
 refine dn_ hK37 ?_
 rcases eti_ H with ⟨c43, H⟩ | ⟨c43, H⟩
 · refine wy_ (nB (bF c43)) (sr_ fun _ hK45 => ?_)
   refine as_ ?_
   refine ad_ hK45 ?_
   refine WC.ret ?_
   replace HS := HS.nilV (α := Int) 3 (Dk.int .i64)
   obtain ⟨rfl, rfl⟩ := Prod.mk.inj (os H)
   exact fin2 Try.f149 rfl rfl rfl hR_ ⟨_, _, rfl, (St.owns (St.forget HS 1 rfl)), HS.b⟩
 refine wn_ (nB c43) (WC.skip (via_ hK36 (sr_ fun _ hK44 => ?_)))
 refine fast_ ?_
 refine via_ hK44 (WC.ret ?_)
 replace HS := HS.elsF (xs := (t18.set a1.toNat (wrap64 ((t18.getD a1.toNat 0) + a2)))) (inner := I32) (Dk.int .i64) (fun _ _ _ h_ => ⟨h_, rfl⟩) (fun _ => (HS.getN 0 rfl))
 replace HS := HS.front 1 rfl
 dsimp only [List.eraseIdx] at HS
 replace HS := HS.seal rfl rfl
 obtain ⟨rfl, rfl⟩ := Prod.mk.inj (os H)
 exact fin2 Try.f149 rfl rfl rfl hR_ ⟨_, _, rfl, (St.owns HS), HS.b⟩
def impl_SharePage.g (k : Nat) (l0 : List Int) (a1 : Int) : Option ((List Int) × Bool) := ((impl_moved.g k l0 a1 1).bind fun t3 => (some (t3.1, t3.2)))
theorem impl_SharePage.runs (k : Nat) (A0 : Option Addr) (c0 : Nat) (l0 : List Int) (a1 : Int) (r1 : List Int) (r2 : Bool) (w : World) (hr0 : kI.C w A0 l0.length l0) (hc0 : l0.length ≤ c0) (H : impl_SharePage.g k l0 a1 = some (r1, r2)) :
   Calls prog 123 #[.slice A0 l0.length c0, vi a1] w fun e w' => ∃ (v0_ : Value) (bl0_ : List Nat), e = .returned (.tuple #[v0_, .bool r2]) ∧ Owns w' w.heap.size [valM (Dk.slice 3 (Dk.int .i64)) r1 [v0_] bl0_] ∧ Below w.heap.size w w' := by
 unfold impl_SharePage.g at H
 have HS : St (fun _ => True) w w [] [(cF kI A0 l0)] [] := St.start (foot_cons (foot_C (Kd.heap_int _) hr0) foot_nil)
 refine cw_ (n := 11) func123 fun R_ hR_ => ?_
 refine sr_ fun _ hK1 => ?_
 refine as_ ?_
 refine ad_ hK1 ?_
 refine sr_ fun _ hK2 => ?_
 refine mv_ ?_
 refine mv_ ?_
 obtain ⟨t3, ha4, H⟩ := bind_some H
 refine c_ func149 (impl_moved.runs k A0 c0 l0 a1 1 t3.1 t3.2 _ (HS.getO 0 rfl) hc0 ha4) ?_
 clear ha4
 rintro _ w5 ⟨v6, bl7, rfl, hO_, hb⟩
 replace HS := HS.got hb hO_
 dsimp only [List.cons_append, List.nil_append] at HS
 clear hO_
 obtain ⟨I8, bl9, HS⟩ := HS.unseal (sz := 1) rfl
 replace HS := HS.freezeN 1 (p := (rF kI t3.1 I8)) rfl (fun _ hP_ _ => RepsB.reps hP_)
 dsimp only [List.eraseIdx] at HS
 refine ⟨_, rfl, ?_⟩
 clear hb
 refine v_ (Run.extract rfl rfl rfl) ?_
 refine v_ (Run.extract rfl rfl rfl) ?_
 refine as_ ?_
 refine ad_ hK2 ?_
 refine WC.ret ?_
 obtain ⟨A10, c11, rfl⟩ := row_slice (HS.mu 0 rfl)
 replace HS := HS.elsF (xs := t3.1) (inner := I8) (Dk.int .i64) (fun _ _ _ h_ => ⟨h_, rfl⟩) (fun _ => (HS.getN 0 rfl))
 replace HS := HS.front 1 rfl
 dsimp only [List.eraseIdx] at HS
 replace HS := HS.seal rfl rfl
 obtain ⟨rfl, rfl⟩ := Prod.mk.inj (os H)
 exact fin2 Try.f123 rfl rfl rfl hR_ ⟨_, _, rfl, (St.owns HS), HS.b⟩
def impl_ForkTable.b0 (x1 : S67) (rec_ : Int → (List Int) → Option ((S58 × S67 × Bool) ⊕ (Int × (List Int)))) (k65 : Nat) (i41 : Int) (xs42 : List Int) : Option ((S58 × S67 × Bool) ⊕ (Int × (List Int))) := (if i41 < (x1.f0.length : Int) then (if 0 ≤ i41 ∧ i41 < (x1.f0.length : Int) then ((impl_SharePage.g k65 xs42 (x1.f0.getD i41.toNat 0)).bind fun t77 => (if t77.2 = true then (rec_ (wrap64 (i41 + 1)) t77.1) else (some (Sum.inl ((⟨[], []⟩ : S58), (⟨[], 0⟩ : S67), false))))) else none) else (some (Sum.inr (i41, xs42))))
def impl_ForkTable.l0 (x1 : S67) : Nat → Int → (List Int) → Option ((S58 × S67 × Bool) ⊕ (Int × (List Int)))
 | 0, _, _ => none
 | k + 1, i41, xs42 => impl_ForkTable.b0 x1 (impl_ForkTable.l0 x1 k) k i41 xs42
def impl_ForkTable.g (k : Nat) (x0 : S58) (x1 : S67) : Option (S58 × S67 × Bool) := ((impl_TableOk.g k (⟨x0.f0, x0.f1⟩ : S58) (⟨x1.f0, x1.f1⟩ : S67)).bind fun t12 => (if t12 = true then ((impl_cloneStore.g k (⟨x0.f0, x0.f1⟩ : S58)).bind fun t17 => ((impl_ForkTable.l0 x1 k 0 t17.f0).bind (fun oc63 => match oc63 with | .inl r_ => some r_ | .inr ⟨i41, xs42⟩ => ((impl_cloneTable.g k (⟨x1.f0, x1.f1⟩ : S67)).bind fun t52 => (some ((⟨xs42, t17.f1⟩ : S58), (⟨t52.f0, t52.f1⟩ : S67), true)))))) else (some ((⟨[], []⟩ : S58), (⟨[], 0⟩ : S67), false))))
theorem impl_ForkTable.runs (k : Nat) (x0 : S58) (A0_0 : Option Addr) (c0_0 : Nat) (A0_1 : Option Addr) (c0_1 : Nat) (x1 : S67) (A1_0 : Option Addr) (c1_0 : Nat) (r1 : S58) (r2 : S67) (r3 : Bool) (w : World) (hr0_0 : kI.C w A0_0 x0.f0.length x0.f0) (hc0_0 : x0.f0.length ≤ c0_0) (hr0_1 : kS62.C w A0_1 x0.f1.length x0.f1) (hc0_1 : x0.f1.length ≤ c0_1) (hr1_0 : kI.C w A1_0 x1.f0.length x1.f0) (hc1_0 : x1.f0.length ≤ c1_0) (H : impl_ForkTable.g k x0 x1 = some (r1, r2, r3)) :
   Calls prog 54 #[.agg #[.slice A0_0 x0.f0.length c0_0, .slice A0_1 x0.f1.length c0_1], .agg #[.slice A1_0 x1.f0.length c1_0, vi x1.f1]] w fun e w' => ∃ (v0_0_ : Value) (bl0_0_ : List Nat) (v0_1_ : Value) (bl0_1_ : List Nat) (v1_0_ : Value) (bl1_0_ : List Nat), e = .returned (.tuple #[.agg #[v0_0_, v0_1_], .agg #[v1_0_, vi r2.f1], .bool r3]) ∧ Owns w' w.heap.size [valM (Dk.slice 3 (Dk.int .i64)) r1.f0 [v0_0_] bl0_0_, valM (Dk.slice 71 (Dk.slice 62 dq62)) r1.f1 [v0_1_] bl0_1_, valM (Dk.slice 3 (Dk.int .i64)) r2.f0 [v1_0_] bl1_0_] ∧ Below w.heap.size w w' := by
 unfold impl_ForkTable.g at H
 have HS : St (fun _ => True) w w [] [(cF kI A0_0 x0.f0), (cF kS62 A0_1 x0.f1), (cF kI A1_0 x1.f0)] [] := St.start (foot_cons (foot_C (Kd.heap_int _) hr0_0) (foot_cons (foot_C (Kd.heap_slice _ h62) hr0_1) (foot_cons (foot_C (Kd.heap_int _) hr1_0) foot_nil)))
 refine cw_ (n := 44) func54 fun R_ hR_ => ?_
 refine sr_ fun _ hK1 => ?_
 refine bo_ HS (fun b2 w3 hb2 HS => ?_)
 refine bo_ HS (fun b4 w5 hb4 HS => ?_)
 refine WL.alloc HS (v := .agg #[sn, sn]) (cs := #[sn, sn]) rfl rfl (by decide) rfl (by kernel_rfl) rfl (fun b6 w7 hb6 HS => ?_)
 refine WL.alloc HS (v := .agg #[sn, vi 0]) (cs := #[sn, vi 0]) rfl rfl (by decide) rfl (by kernel_rfl) rfl (fun b8 w9 hb8 HS => ?_)
 refine ad_ hK1 ?_
 refine WC.seq fun _ hK10 => ?_
 refine sr_ fun _ hK11 => ?_
 refine v_ (ls_ (HS.mu 3 rfl) underlying58 part_all) ?_
 refine v_ (ls_ (HS.mu 2 rfl) underlying67 part_all) ?_
 obtain ⟨t12, ha13, H⟩ := bind_some H
 refine cs_ HS func57 (impl_TableOk.runs k (⟨x0.f0, x0.f1⟩ : S58) A0_0 c0_0 A0_1 c0_1 (⟨x1.f0, x1.f1⟩ : S67) A1_0 c1_0 t12 _ (HS.getO 0 rfl) hc0_0 (HS.getO 1 rfl) hc0_1 (HS.getO 2 rfl) hc1_0 ha13) (fun w14 HS => ?_)
 clear ha13
 refine nt_ ?_
 refine dn_ hK11 ?_
 rcases eti_ H with ⟨c15, H⟩ | ⟨c15, H⟩
 · refine wy_ (nB (bF c15)) (sr_ fun _ hK93 => ?_)
   refine v_ (Run.build (cells := #[sn, sn]) rfl [] trivial (by kernel_rfl)) ?_
   refine v_ (Run.build (cells := #[sn, vi 0]) rfl [] trivial (by kernel_rfl)) ?_
   refine WL.storeW HS 1 rfl rfl rfl rfl rfl rfl (oneL rfl) (by kernel_rfl) rfl (fun w94 HS => ?_)
   dsimp only [List.set] at HS
   refine WL.storeW HS 0 rfl rfl rfl rfl rfl rfl (oneL rfl) (by kernel_rfl) rfl (fun w95 HS => ?_)
   dsimp only [List.set] at HS
   refine ad_ hK93 ?_
   refine WC.ret ?_
   replace HS := HS.nilV (α := Int) 3 (Dk.int .i64)
   replace HS := HS.nilV (α := List S62) 71 (Dk.slice 62 dq62)
   replace HS := HS.nilV (α := Int) 3 (Dk.int .i64)
   obtain ⟨rfl, rfl, rfl⟩ := (by have h_ := os H; simp only [Prod.mk.injEq] at h_; exact h_)
   exact fin3 Try.f54 rfl ⟨_, rfl, resv_box (HS.mu 4 rfl) underlying58 rfl (by kernel_rfl)⟩ ⟨_, rfl, resv_box (HS.mu 3 rfl) underlying67 rfl (by kernel_rfl)⟩ rfl hR_ ⟨_, _, _, _, _, _, rfl, (St.owns (St.front (St.front (St.front (St.forget (St.forget (St.forget (St.forget HS 6 rfl) 5 rfl) 4 rfl) 3 rfl) 0 rfl) 1 rfl) 2 rfl)), HS.b⟩
 refine wn_ (nB c15) (WC.skip (via_ hK10 (sr_ fun _ hK16 => ?_)))
 refine v_ (ls_ (HS.mu 3 rfl) underlying58 part_all) ?_
 obtain ⟨t17, ha18, H⟩ := bind_some H
 refine c_ func105 (impl_cloneStore.runs k (⟨x0.f0, x0.f1⟩ : S58) A0_0 c0_0 A0_1 c0_1 t17 _ (HS.getO 0 rfl) hc0_0 (HS.getO 1 rfl) hc0_1 ha18) ?_
 clear ha18
 rintro _ w19 ⟨v20, bl21, v22, bl23, rfl, hO_, hb⟩
 replace HS := HS.got hb hO_
 dsimp only [List.cons_append, List.nil_append] at HS
 clear hO_
 obtain ⟨I24, bl25, HS⟩ := HS.unseal (sz := 1) rfl
 replace HS := HS.freezeN 1 (p := (rF kI t17.f0 I24)) rfl (fun _ hP_ _ => RepsB.reps hP_)
 dsimp only [List.eraseIdx] at HS
 replace HS := HS.front 1 rfl
 dsimp only [List.eraseIdx] at HS
 obtain ⟨I26, bl27, HS⟩ := HS.unseal (sz := 1) rfl
 refine ⟨_, rfl, ?_⟩
 clear hb
 refine WL.alloc HS (v := .agg #[sn, sn]) (cs := #[sn, sn]) rfl rfl (by decide) rfl (by kernel_rfl) rfl (fun b28 w29 hb28 HS => ?_)
 obtain ⟨A31, c32, rfl⟩ := row_slice (HS.mu 3 rfl)
 obtain ⟨A33, c34, rfl⟩ := row_slice (HS.mu 1 rfl)
 refine WL.storeW HS 0 rfl rfl rfl rfl rfl rfl (oneL rfl) (by kernel_rfl) rfl (fun w30 HS => ?_)
 dsimp only [List.set] at HS
 refine dn_ hK16 (WC.seq fun K35 hK35 => ?_)
 refine sr_ fun _ hK36 => ?_
 refine v_ (fa_ underlying67) ?_
 refine v_ (lb_ (HS.mu 6 rfl) underlying22 rfl) ?_
 refine ln_ underlying22 ?_
 refine mv_ ?_
 refine dn_ hK36 (WC.block ?_)
 obtain ⟨G37, hG38, oc39, H, Ho40⟩ := open_G H
 let J45 := fun (i41 : Int) (xs42 : List Int) v43 I44 (E_ : Env) (W_ : World) => E_ = [(3, .pointer (some ⟨b4, 0, none⟩)), (4, .pointer (some ⟨b6, 0, none⟩)), (5, .pointer (some ⟨b8, 0, none⟩)), (7, .pointer (some ⟨b28, 0, none⟩)), (21, .slice A1_0 x1.f0.length c1_0), (22, vi (x1.f0.length : Int)), (23, vi i41)] ∧ St (fun _ => True) w W_ [boxM b28 #[v43, (.slice A33 t17.f1.length c34)] 58, rowM w.heap.size 71 1 (.slice A33 t17.f1.length c34) t17.f1.length I26, elsM (Dk.slice 62 dq62) t17.f1 I26 bl27, rowM w.heap.size 3 1 v43 xs42.length I44, boxM b8 #[sn, vi 0] 67, boxM b6 #[sn, sn] 58, boxM b4 #[.slice A1_0 x1.f0.length c1_0, vi x1.f1] 67, boxM b2 #[.slice A0_0 x0.f0.length c0_0, .slice A0_1 x0.f1.length c0_1] 58] [(cF kI A0_0 x0.f0), (cF kS62 A0_1 x0.f1), (cF kI A1_0 x1.f0)] [(rF kI xs42 I44)]
 have X46 : ∀ E_ W_, (∃ i41 xs42 v43 I44, G37 (Sum.inr (i41, xs42)) = some (r1, r2, r3) ∧ J45 i41 xs42 v43 I44 E_ W_) → ∀ a, Fits a 44 E_ → K35 a W_ := by
   rintro E_ w47 ⟨i41, xs42, v43, I44, H, rfl, HS⟩
   rw [hG38] at H
   (try dsimp only at H)
   refine hK35 _ _ ?_
   refine WC.seq fun _ hK48 => ?_
   refine WC.drawW HS [boxM b28 #[v43, (.slice A33 t17.f1.length c34)] 58, boxM b4 #[.slice A1_0 x1.f0.length c1_0, vi x1.f1] 67, boxM b2 #[.slice A0_0 x0.f0.length c0_0, .slice A0_1 x0.f1.length c0_1] 58] (fun _ HS => ⟨(HS.mu 0 rfl), (HS.mu 6 rfl), (HS.mu 7 rfl), trivial⟩) [] rfl rfl (fun w49 HS => ?_)
   obtain ⟨A50, c51, rfl⟩ := row_slice (HS.mu 3 rfl)
   refine dt_ 0 ⟨HS.nowO, HS.nowN, ⟨(HS.mu 0 rfl), (HS.mu 6 rfl), (HS.mu 7 rfl), trivial⟩⟩ (fun w_ hw_ => Run.loadS (cs := [(.slice A50 xs42.length c51), (.slice A33 t17.f1.length c34)]) rfl rfl underlying58 rfl (by kernel_rfl) (box_part hw_.2.2.1 part_all)) ?_
   refine dt_ 1 ⟨HS.nowO, HS.nowN, ⟨(HS.mu 0 rfl), (HS.mu 6 rfl), (HS.mu 7 rfl), trivial⟩⟩ (fun w_ hw_ => Run.loadS (cs := [.slice A1_0 x1.f0.length c1_0, vi x1.f1]) rfl rfl underlying67 rfl (by kernel_rfl) (box_part hw_.2.2.2.1 part_all)) ?_
   obtain ⟨t52, ha53, H⟩ := bind_some H
   refine dc_ 2 (w_none rfl) func106 (impl_cloneTable.runs k (⟨x1.f0, x1.f1⟩ : S67) A1_0 c1_0 t52 _ (HS.getO 2 rfl) hc1_0 ha53) ?_
   clear ha53
   rintro _ w54 ⟨v55, bl56, rfl, hO_, hb⟩
   replace HS := HS.got hb hO_
   dsimp only [List.cons_append, List.nil_append] at HS
   clear hO_
   obtain ⟨I57, bl58, HS⟩ := HS.unseal (sz := 1) rfl
   replace HS := HS.freezeN 1 (p := (rF kI t52.f0 I57)) rfl (fun _ hP_ _ => RepsB.reps hP_)
   dsimp only [List.eraseIdx] at HS
   refine ⟨⟨HS.nowO, HS.nowN.2, ⟨(HS.mu 1 rfl), (HS.mu 7 rfl), (HS.mu 8 rfl), trivial⟩⟩, _, rfl, ?_⟩
   clear hb
   refine WD.storeS 3 HS 6 rfl rfl rfl rfl (oneL rfl) (by kernel_rfl) (ble_ rfl) (cs' := #[(.slice A50 xs42.length c51), (.slice A33 t17.f1.length c34)]) (by kernel_rfl) (fun w59 HS => ?_)
   dsimp only [List.set] at HS
   refine ⟨⟨HS.nowO, HS.nowN.2, ⟨(HS.mu 1 rfl), (HS.mu 7 rfl), (HS.mu 8 rfl), trivial⟩⟩, ?_⟩
   obtain ⟨A61, c62, rfl⟩ := row_slice (HS.mu 0 rfl)
   refine WD.storeS 4 HS 5 rfl rfl rfl rfl (oneL rfl) (by kernel_rfl) (ble_ rfl) (cs' := #[(.slice A61 t52.f0.length c62), vi t52.f1]) (by kernel_rfl) (fun w60 HS => ?_)
   dsimp only [List.set] at HS
   refine ⟨⟨HS.nowO, HS.nowN.2, ⟨(HS.mu 1 rfl), (HS.mu 7 rfl), (HS.mu 8 rfl), trivial⟩⟩, ?_⟩
   refine dp_ 5 (fun _ => Run.assign rfl rfl) ?_
   refine dd_ (via_ hK48 (WC.ret ?_))
   replace HS := HS.elsF (xs := xs42) (inner := I44) (Dk.int .i64) (fun _ _ _ h_ => ⟨h_, rfl⟩) (fun _ => (HS.getN 1 rfl))
   replace HS := HS.front 5 rfl
   dsimp only [List.eraseIdx] at HS
   replace HS := HS.seal rfl rfl
   replace HS := HS.front 4 rfl
   dsimp only [List.eraseIdx] at HS
   replace HS := HS.front 4 rfl
   dsimp only [List.eraseIdx] at HS
   replace HS := HS.seal rfl rfl
   replace HS := HS.elsF (xs := t52.f0) (inner := I57) (Dk.int .i64) (fun _ _ _ h_ => ⟨h_, rfl⟩) (fun _ => (HS.getN 0 rfl))
   replace HS := HS.front 3 rfl
   dsimp only [List.eraseIdx] at HS
   replace HS := HS.seal rfl rfl
   obtain ⟨rfl, rfl, rfl⟩ := (by have h_ := os H; simp only [Prod.mk.injEq] at h_; exact h_)
   exact fin3 Try.f54 rfl ⟨_, rfl, resv_box (HS.mu 5 rfl) underlying58 rfl (by kernel_rfl)⟩ ⟨_, rfl, resv_box (HS.mu 4 rfl) underlying67 rfl (by kernel_rfl)⟩ rfl hR_ ⟨_, _, _, _, _, _, rfl, (St.owns (St.front (St.front (St.front (St.forget (St.forget (St.forget (St.forget (St.forget HS 7 rfl) 6 rfl) 5 rfl) 4 rfl) 3 rfl) 0 rfl) 1 rfl) 2 rfl)), HS.b⟩
 clear hK35
 refine WC.loop (fun k_ E_ W_ => ∃ i41 xs42 v43 I44, (∃ o_, impl_ForkTable.l0 x1 k_ i41 xs42 = some o_ ∧ G37 o_ = some (r1, r2, r3)) ∧ J45 i41 xs42 v43 I44 E_ W_) k ⟨0, t17.f0, (.slice A31 t17.f0.length c32), I24, ⟨_, H, Ho40⟩, rfl, HS⟩ (sb rfl) ?_
 rintro k_ E_ w64 ⟨i41, xs42, v43, I44, ⟨oc39, H, Ho40⟩, rfl, HS⟩
 rcases k_ with _ | k65
 · exact no_ H
 replace H : impl_ForkTable.b0 x1 (impl_ForkTable.l0 x1 k65) k65 i41 xs42 = some oc39 := H
 unfold impl_ForkTable.b0 at H
 refine sr_ fun _ hK66 => ?_
 refine b_ bin_lss ?_
 refine dn_ hK66 (WC.seq fun _ hK67 => ?_)
 rcases eti_ H with ⟨c68, H⟩ | ⟨c68, H⟩
 · refine wn_ (dF c68) (WC.exit ?_)
   obtain rfl := os H
   exact wv_ iq X46 ⟨i41, xs42, v43, I44, Ho40, rfl, HS⟩
 refine wy_ (dT c68) (WC.skip (via_ hK67 (WC.seq fun _ hK69 => ?_)))
 refine WC.block (sr_ fun _ hK70 => ?_)
 obtain ⟨⟨q71, q72⟩, H⟩ := if_some H
 obtain ⟨ad73, rfl⟩ := C_open (HS.getO 2 rfl) (by omega)
 refine v_ (ia_ underlying22 1 q71 q72) ?_
 refine v_ (Run.load rfl rfl underlying3 rfl (int_cell (HS.getO 2 rfl) i41 q71 q72)) ?_
 refine ad_ hK70 ?_
 refine sr_ fun _ hK74 => ?_
 refine v_ (fa_ underlying58) ?_
 obtain ⟨A75, c76, rfl⟩ := row_slice (HS.mu 3 rfl)
 refine v_ (lb_ (HS.mu 0 rfl) underlying22 rfl) ?_
 refine mv_ ?_
 obtain ⟨t77, ha78, H⟩ := bind_some H
 refine c_ func123 (impl_SharePage.runs k65 A75 c76 xs42 (x1.f0.getD i41.toNat 0) t77.1 t77.2 _ (row_C rfl (HS.mu 3 rfl) (HS.getN 0 rfl)) (row_le (HS.mu 3 rfl)) ha78) ?_
 clear ha78
 rintro _ w79 ⟨v80, bl81, rfl, hO_, hb⟩
 replace HS := HS.got hb hO_
 dsimp only [List.cons_append, List.nil_append] at HS
 clear hO_
 obtain ⟨I82, bl83, HS⟩ := HS.unseal (sz := 1) rfl
 replace HS := HS.freezeN 1 (p := (rF kI t77.1 I82)) rfl (fun _ hP_ _ => RepsB.reps hP_)
 dsimp only [List.eraseIdx] at HS
 refine ⟨_, rfl, ?_⟩
 clear hb
 refine mv_ ?_
 refine v_ (Run.extract rfl rfl rfl) ?_
 refine v_ (Run.extract rfl rfl rfl) ?_
 refine as_ ?_
 refine ad_ hK74 ?_
 refine WC.seq fun _ hK84 => ?_
 refine sr_ fun _ hK85 => ?_
 refine mv_ ?_
 refine nt_ ?_
 refine dn_ hK85 ?_
 rcases ite_ H with ⟨c86, H⟩ | ⟨c86, H⟩
 · refine wn_ (nB c86) (WC.skip (via_ hK84 (rg_ (mv_ ?_))))
   refine v_ (fa_ underlying58) ?_
   obtain ⟨A88, c89, rfl⟩ := row_slice (HS.mu 0 rfl)
   refine WL.store HS 1 rfl rfl rfl rfl rfl rfl rfl (by kernel_rfl) (ble_ rfl) (cs' := #[(.slice A88 t77.1.length c89), (.slice A33 t17.f1.length c34)]) (by kernel_rfl) (fun w87 HS => ?_)
   dsimp only [List.set] at HS
   refine dn_ hK69 (rg_ (b_ bin_add64 ?_))
   refine mv_ ?_
   refine WL.done ?_
   exact wr_ k65 iq ⟨(wrap64 (i41 + 1)), t77.1, (.slice A88 t77.1.length c89), I82, ⟨_, H, Ho40⟩, rfl, (St.pk (St.front (St.front (St.front (St.front (St.front (St.front (St.front (St.front (St.forget HS 4 rfl) 7 rfl) 7 rfl) 7 rfl) 7 rfl) 4 rfl) 7 rfl) 7 rfl) 7 rfl) [0, 1, 2] [0] rfl rfl)⟩
 refine wy_ (nB (bF c86)) (sr_ fun _ hK90 => ?_)
 refine v_ (Run.build (cells := #[sn, sn]) rfl [] trivial (by kernel_rfl)) ?_
 refine v_ (Run.build (cells := #[sn, vi 0]) rfl [] trivial (by kernel_rfl)) ?_
 refine WL.storeW HS 6 rfl rfl rfl rfl rfl rfl (oneL rfl) (by kernel_rfl) rfl (fun w91 HS => ?_)
 dsimp only [List.set] at HS
 refine WL.storeW HS 5 rfl rfl rfl rfl rfl rfl (oneL rfl) (by kernel_rfl) rfl (fun w92 HS => ?_)
 dsimp only [List.set] at HS
 refine ad_ hK90 ?_
 refine WC.ret ?_
 replace HS := HS.nilV (α := Int) 3 (Dk.int .i64)
 replace HS := HS.nilV (α := List S62) 71 (Dk.slice 62 dq62)
 replace HS := HS.nilV (α := Int) 3 (Dk.int .i64)
 obtain rfl := os H
 rw [hG38] at Ho40
 replace H : some _ = some _ := Ho40
 obtain ⟨rfl, rfl, rfl⟩ := (by have h_ := os H; simp only [Prod.mk.injEq] at h_; exact h_)
 exact fin3 Try.f54 rfl ⟨_, rfl, resv_box (HS.mu 9 rfl) underlying58 rfl (by kernel_rfl)⟩ ⟨_, rfl, resv_box (HS.mu 8 rfl) underlying67 rfl (by kernel_rfl)⟩ rfl hR_ ⟨_, _, _, _, _, _, rfl, (St.owns (St.front (St.front (St.front (St.forget (St.forget (St.forget (St.forget (St.forget (St.forget (St.forget (St.forget (St.forget HS 11 rfl) 10 rfl) 9 rfl) 8 rfl) 7 rfl) 6 rfl) 5 rfl) 4 rfl) 3 rfl) 0 rfl) 1 rfl) 2 rfl)), HS.b⟩
def impl_DropTable.b0 (x1 : S67) (rec_ : Int → (List Int) → (List (List S62)) → Option (Int × (List Int) × (List (List S62)))) (k58 : Nat) (i39 : Int) (xs40 : List Int) (xs43 : List (List S62)) : Option (Int × (List Int) × (List (List S62))) := (if i39 < (x1.f0.length : Int) then (if 0 ≤ i39 ∧ i39 < (x1.f0.length : Int) then (if 0 ≤ (x1.f0.getD i39.toNat 0) ∧ (x1.f0.getD i39.toNat 0) < ((xs40.length : Nat) : Int) then (if 0 ≤ (x1.f0.getD i39.toNat 0) ∧ (x1.f0.getD i39.toNat 0) < (((xs40.set (x1.f0.getD i39.toNat 0).toNat (wrap64 ((xs40.getD (x1.f0.getD i39.toNat 0).toNat 0) - 1))).length : Nat) : Int) then (if ((xs40.set (x1.f0.getD i39.toNat 0).toNat (wrap64 ((xs40.getD (x1.f0.getD i39.toNat 0).toNat 0) - 1))).getD (x1.f0.getD i39.toNat 0).toNat 0) = 0 then (if 0 ≤ (x1.f0.getD i39.toNat 0) ∧ (x1.f0.getD i39.toNat 0) < ((xs43.length : Nat) : Int) then (rec_ (wrap64 (i39 + 1)) (xs40.set (x1.f0.getD i39.toNat 0).toNat (wrap64 ((xs40.getD (x1.f0.getD i39.toNat 0).toNat 0) - 1))) (xs43.set (x1.f0.getD i39.toNat 0).toNat ([]))) else none) else (rec_ (wrap64 (i39 + 1)) (xs40.set (x1.f0.getD i39.toNat 0).toNat (wrap64 ((xs40.getD (x1.f0.getD i39.toNat 0).toNat 0) - 1))) xs43)) else none) else none) else none) else (some (i39, xs40, xs43)))
def impl_DropTable.l0 (x1 : S67) : Nat → Int → (List Int) → (List (List S62)) → Option (Int × (List Int) × (List (List S62)))
 | 0, _, _, _ => none
 | k + 1, i39, xs40, xs43 => impl_DropTable.b0 x1 (impl_DropTable.l0 x1 k) k i39 xs40 xs43
def impl_DropTable.g (k : Nat) (x0 : S58) (x1 : S67) : Option (S58 × Bool) := ((impl_TableOk.g k (⟨x0.f0, x0.f1⟩ : S58) (⟨x1.f0, x1.f1⟩ : S67)).bind fun t10 => (if t10 = true then ((impl_cloneStore.g k (⟨x0.f0, x0.f1⟩ : S58)).bind fun t15 => ((impl_DropTable.l0 x1 k 0 t15.f0 t15.f1).bind (fun oc56 => (some ((⟨oc56.2.1, oc56.2.2⟩ : S58), true))))) else (some ((⟨[], []⟩ : S58), false))))
theorem impl_DropTable.runs (k : Nat) (x0 : S58) (A0_0 : Option Addr) (c0_0 : Nat) (A0_1 : Option Addr) (c0_1 : Nat) (x1 : S67) (A1_0 : Option Addr) (c1_0 : Nat) (r1 : S58) (r2 : Bool) (w : World) (hr0_0 : kI.C w A0_0 x0.f0.length x0.f0) (hc0_0 : x0.f0.length ≤ c0_0) (hr0_1 : kS62.C w A0_1 x0.f1.length x0.f1) (hc0_1 : x0.f1.length ≤ c0_1) (hr1_0 : kI.C w A1_0 x1.f0.length x1.f0) (hc1_0 : x1.f0.length ≤ c1_0) (H : impl_DropTable.g k x0 x1 = some (r1, r2)) :
   Calls prog 55 #[.agg #[.slice A0_0 x0.f0.length c0_0, .slice A0_1 x0.f1.length c0_1], .agg #[.slice A1_0 x1.f0.length c1_0, vi x1.f1]] w fun e w' => ∃ (v0_0_ : Value) (bl0_0_ : List Nat) (v0_1_ : Value) (bl0_1_ : List Nat), e = .returned (.tuple #[.agg #[v0_0_, v0_1_], .bool r2]) ∧ Owns w' w.heap.size [valM (Dk.slice 3 (Dk.int .i64)) r1.f0 [v0_0_] bl0_0_, valM (Dk.slice 71 (Dk.slice 62 dq62)) r1.f1 [v0_1_] bl0_1_] ∧ Below w.heap.size w w' := by
 unfold impl_DropTable.g at H
 have HS : St (fun _ => True) w w [] [(cF kI A0_0 x0.f0), (cF kS62 A0_1 x0.f1), (cF kI A1_0 x1.f0)] [] := St.start (foot_cons (foot_C (Kd.heap_int _) hr0_0) (foot_cons (foot_C (Kd.heap_slice _ h62) hr0_1) (foot_cons (foot_C (Kd.heap_int _) hr1_0) foot_nil)))
 refine cw_ (n := 27) func55 fun R_ hR_ => ?_
 refine sr_ fun _ hK1 => ?_
 refine bo_ HS (fun b2 w3 hb2 HS => ?_)
 refine bo_ HS (fun b4 w5 hb4 HS => ?_)
 refine WL.alloc HS (v := .agg #[sn, sn]) (cs := #[sn, sn]) rfl rfl (by decide) rfl (by kernel_rfl) rfl (fun b6 w7 hb6 HS => ?_)
 refine ad_ hK1 ?_
 refine WC.seq fun _ hK8 => ?_
 refine sr_ fun _ hK9 => ?_
 refine v_ (ls_ (HS.mu 2 rfl) underlying58 part_all) ?_
 refine v_ (ls_ (HS.mu 1 rfl) underlying67 part_all) ?_
 obtain ⟨t10, ha11, H⟩ := bind_some H
 refine cs_ HS func57 (impl_TableOk.runs k (⟨x0.f0, x0.f1⟩ : S58) A0_0 c0_0 A0_1 c0_1 (⟨x1.f0, x1.f1⟩ : S67) A1_0 c1_0 t10 _ (HS.getO 0 rfl) hc0_0 (HS.getO 1 rfl) hc0_1 (HS.getO 2 rfl) hc1_0 ha11) (fun w12 HS => ?_)
 clear ha11
 refine nt_ ?_
 refine dn_ hK9 ?_
 rcases eti_ H with ⟨c13, H⟩ | ⟨c13, H⟩
 · refine wy_ (nB (bF c13)) (sr_ fun _ hK98 => ?_)
   refine v_ (Run.build (cells := #[sn, sn]) rfl [] trivial (by kernel_rfl)) ?_
   refine WL.storeW HS 0 rfl rfl rfl rfl rfl rfl (oneL rfl) (by kernel_rfl) rfl (fun w99 HS => ?_)
   dsimp only [List.set] at HS
   refine ad_ hK98 ?_
   refine WC.ret ?_
   replace HS := HS.nilV (α := Int) 3 (Dk.int .i64)
   replace HS := HS.nilV (α := List S62) 71 (Dk.slice 62 dq62)
   obtain ⟨rfl, rfl⟩ := Prod.mk.inj (os H)
   exact fin2 Try.f55 rfl ⟨_, rfl, resv_box (HS.mu 2 rfl) underlying58 rfl (by kernel_rfl)⟩ rfl hR_ ⟨_, _, _, _, rfl, (St.owns (St.front (St.front (St.forget (St.forget (St.forget HS 4 rfl) 3 rfl) 2 rfl) 0 rfl) 1 rfl)), HS.b⟩
 refine wn_ (nB c13) (WC.skip (via_ hK8 (sr_ fun _ hK14 => ?_)))
 refine v_ (ls_ (HS.mu 2 rfl) underlying58 part_all) ?_
 obtain ⟨t15, ha16, H⟩ := bind_some H
 refine c_ func105 (impl_cloneStore.runs k (⟨x0.f0, x0.f1⟩ : S58) A0_0 c0_0 A0_1 c0_1 t15 _ (HS.getO 0 rfl) hc0_0 (HS.getO 1 rfl) hc0_1 ha16) ?_
 clear ha16
 rintro _ w17 ⟨v18, bl19, v20, bl21, rfl, hO_, hb⟩
 replace HS := HS.got hb hO_
 dsimp only [List.cons_append, List.nil_append] at HS
 clear hO_
 obtain ⟨I22, bl23, HS⟩ := HS.unseal (sz := 1) rfl
 replace HS := HS.freezeN 1 (p := (rF kI t15.f0 I22)) rfl (fun _ hP_ _ => RepsB.reps hP_)
 dsimp only [List.eraseIdx] at HS
 replace HS := HS.front 1 rfl
 dsimp only [List.eraseIdx] at HS
 obtain ⟨I24, bl25, HS⟩ := HS.unseal (sz := 1) rfl
 refine ⟨_, rfl, ?_⟩
 clear hb
 refine WL.alloc HS (v := .agg #[sn, sn]) (cs := #[sn, sn]) rfl rfl (by decide) rfl (by kernel_rfl) rfl (fun b26 w27 hb26 HS => ?_)
 obtain ⟨A29, c30, rfl⟩ := row_slice (HS.mu 3 rfl)
 obtain ⟨A31, c32, rfl⟩ := row_slice (HS.mu 1 rfl)
 refine WL.storeW HS 0 rfl rfl rfl rfl rfl rfl (oneL rfl) (by kernel_rfl) rfl (fun w28 HS => ?_)
 dsimp only [List.set] at HS
 refine dn_ hK14 (WC.seq fun K33 hK33 => ?_)
 refine sr_ fun _ hK34 => ?_
 refine v_ (fa_ underlying67) ?_
 refine v_ (lb_ (HS.mu 5 rfl) underlying22 rfl) ?_
 refine ln_ underlying22 ?_
 refine mv_ ?_
 refine dn_ hK34 (WC.block ?_)
 obtain ⟨G35, hG36, oc37, H, Ho38⟩ := open_G H
 let J47 := fun (i39 : Int) (xs40 : List Int) v41 I42 (xs43 : List (List S62)) v44 I45 bl46 (E_ : Env) (W_ : World) => E_ = [(4, .pointer (some ⟨b6, 0, none⟩)), (6, .pointer (some ⟨b26, 0, none⟩)), (17, .slice A1_0 x1.f0.length c1_0), (18, vi (x1.f0.length : Int)), (19, vi i39)] ∧ St (fun _ => True) w W_ [boxM b26 #[v41, v44] 58, rowM w.heap.size 71 1 v44 xs43.length I45, elsM (Dk.slice 62 dq62) xs43 I45 bl46, rowM w.heap.size 3 1 v41 xs40.length I42, boxM b6 #[sn, sn] 58, boxM b4 #[.slice A1_0 x1.f0.length c1_0, vi x1.f1] 67, boxM b2 #[.slice A0_0 x0.f0.length c0_0, .slice A0_1 x0.f1.length c0_1] 58] [(cF kI A0_0 x0.f0), (cF kS62 A0_1 x0.f1), (cF kI A1_0 x1.f0)] [(rF kI xs40 I42)]
 have X48 : ∀ E_ W_, (∃ i39 xs40 v41 I42 xs43 v44 I45 bl46, G35 (i39, xs40, xs43) = some (r1, r2) ∧ J47 i39 xs40 v41 I42 xs43 v44 I45 bl46 E_ W_) → ∀ a, Fits a 27 E_ → K33 a W_ := by
   rintro E_ w49 ⟨i39, xs40, v41, I42, xs43, v44, I45, bl46, H, rfl, HS⟩
   rw [hG36] at H
   (try dsimp only at H)
   refine hK33 _ _ ?_
   refine sr_ fun _ hK50 => ?_
   obtain ⟨A51, c52, rfl⟩ := row_slice (HS.mu 3 rfl)
   obtain ⟨A53, c54, rfl⟩ := row_slice (HS.mu 1 rfl)
   refine v_ (ls_ (HS.mu 0 rfl) underlying58 part_all) ?_
   refine WL.storeW HS 4 rfl rfl rfl rfl rfl rfl (oneL rfl) (by kernel_rfl) rfl (fun w55 HS => ?_)
   dsimp only [List.set] at HS
   refine ad_ hK50 ?_
   refine WC.ret ?_
   replace HS := HS.elsF (xs := xs40) (inner := I42) (Dk.int .i64) (fun _ _ _ h_ => ⟨h_, rfl⟩) (fun _ => (HS.getN 0 rfl))
   replace HS := HS.front 4 rfl
   dsimp only [List.eraseIdx] at HS
   replace HS := HS.seal rfl rfl
   replace HS := HS.front 3 rfl
   dsimp only [List.eraseIdx] at HS
   replace HS := HS.front 3 rfl
   dsimp only [List.eraseIdx] at HS
   replace HS := HS.seal rfl rfl
   obtain ⟨rfl, rfl⟩ := Prod.mk.inj (os H)
   exact fin2 Try.f55 rfl ⟨_, rfl, resv_box (HS.mu 3 rfl) underlying58 rfl (by kernel_rfl)⟩ rfl hR_ ⟨_, _, _, _, rfl, (St.owns (St.front (St.front (St.forget (St.forget (St.forget (St.forget HS 5 rfl) 4 rfl) 3 rfl) 2 rfl) 0 rfl) 1 rfl)), HS.b⟩
 clear hK33
 refine WC.loop (fun k_ E_ W_ => ∃ i39 xs40 v41 I42 xs43 v44 I45 bl46, (∃ o_, impl_DropTable.l0 x1 k_ i39 xs40 xs43 = some o_ ∧ G35 o_ = some (r1, r2)) ∧ J47 i39 xs40 v41 I42 xs43 v44 I45 bl46 E_ W_) k ⟨0, t15.f0, (.slice A29 t15.f0.length c30), I22, t15.f1, (.slice A31 t15.f1.length c32), I24, bl25, ⟨_, H, Ho38⟩, rfl, HS⟩ (sb rfl) ?_
 rintro k_ E_ w57 ⟨i39, xs40, v41, I42, xs43, v44, I45, bl46, ⟨oc37, H, Ho38⟩, rfl, HS⟩
 rcases k_ with _ | k58
 · exact no_ H
 replace H : impl_DropTable.b0 x1 (impl_DropTable.l0 x1 k58) k58 i39 xs40 xs43 = some oc37 := H
 unfold impl_DropTable.b0 at H
 refine sr_ fun _ hK59 => ?_
 refine b_ bin_lss ?_
 refine dn_ hK59 (WC.seq fun _ hK60 => ?_)
 rcases eti_ H with ⟨c61, H⟩ | ⟨c61, H⟩
 · refine wn_ (dF c61) (WC.exit ?_)
   obtain rfl := os H
   exact wv_ iq X48 ⟨i39, xs40, v41, I42, xs43, v44, I45, bl46, Ho38, rfl, HS⟩
 refine wy_ (dT c61) (WC.skip (via_ hK60 (WC.seq fun _ hK62 => ?_)))
 refine WC.block (sr_ fun _ hK63 => ?_)
 obtain ⟨⟨q64, q65⟩, H⟩ := if_some H
 obtain ⟨ad66, rfl⟩ := C_open (HS.getO 2 rfl) (by omega)
 refine v_ (ia_ underlying22 1 q64 q65) ?_
 refine v_ (Run.load rfl rfl underlying3 rfl (int_cell (HS.getO 2 rfl) i39 q64 q65)) ?_
 refine ad_ hK63 ?_
 refine rg_ (mv_ ?_)
 refine ci_ (args := [.pointer (some ⟨b26, 0, none⟩), vi (x1.f0.getD i39.toNat 0)]) func110 ?_
 refine cw_ (n := 27) func110 fun _ hR67 => ?_
 refine WC.endK (fun _ hK68 => ?_)
 refine sr_ fun _ hK69 => ?_
 refine mv_ ?_
 refine v_ (Run.nilCheck rfl rfl) ?_
 refine v_ (fa_ underlying58) ?_
 obtain ⟨A70, c71, rfl⟩ := row_slice (HS.mu 3 rfl)
 refine v_ (lb_ (HS.mu 0 rfl) underlying22 rfl) ?_
 refine mv_ ?_
 obtain ⟨⟨q72, q73⟩, H⟩ := if_some H
 obtain ⟨ad74, rfl⟩ := row_open (HS.mu 3 rfl) (by omega)
 refine v_ (ia_ underlying22 1 q72 q73) ?_
 refine v_ (Run.load rfl rfl underlying3 rfl (row_int (HS.mu 3 rfl) (HS.getN 0 rfl) q72 q73)) ?_
 refine b_ bin_sub64 ?_
 refine v_ (ia_ underlying22 1 q72 q73) ?_
 have hk_ := mul_room q72 q73 1
 refine WL.putEl HS 3 rfl rfl rfl rfl rfl rfl [vi (wrap64 ((xs40.getD (x1.f0.getD i39.toNat 0).toNat 0) - 1))] rfl (oneL rfl) (by kernel_rfl) (by first | omega | (rw [List.length_nil]; omega) | (simp; omega)) (fun w75 I76 hI77 HS => ?_)
 dsimp only [List.set] at HS
 clear hk_
 replace HS := HS.deriveN (p := (rF kI (xs40.set (x1.f0.getD i39.toNat 0).toNat (wrap64 ((xs40.getD (x1.f0.getD i39.toNat 0).toNat 0) - 1))) I76)) (fun W_ hN_ => reps_set hI77 hN_.1 (K_int _) (toNat_lt q72 q73))
 replace HS := HS.rowN 3 rfl (show xs40.length = (xs40.set (x1.f0.getD i39.toNat 0).toNat (wrap64 ((xs40.getD (x1.f0.getD i39.toNat 0).toNat 0) - 1))).length from (List.length_set ..).symm)
 dsimp only [List.set] at HS
 generalize hv79 : (Value.slice (some ad74) xs40.length c71) = v78 at HS ⊢
 refine dn_ hK69 (sr_ fun _ hK80 => ?_)
 refine mv_ ?_
 refine v_ (Run.nilCheck rfl rfl) ?_
 refine v_ (fa_ underlying58) ?_
 obtain ⟨A81, c82, rfl⟩ := row_slice (HS.mu 3 rfl)
 refine v_ (lb_ (HS.mu 0 rfl) underlying22 rfl) ?_
 refine mv_ ?_
 obtain ⟨⟨q83, q84⟩, H⟩ := if_some H
 obtain ⟨ad85, rfl⟩ := row_open (HS.mu 3 rfl) (by omega)
 refine v_ (ia_ underlying22 1 q83 q84) ?_
 refine v_ (Run.load rfl rfl underlying3 rfl (row_int (HS.mu 3 rfl) (HS.getN 0 rfl) q83 q84)) ?_
 refine b_ bin_eql ?_
 refine dn_ hK80 ?_
 rcases eti_ H with ⟨c86, H⟩ | ⟨c86, H⟩
 · refine wn_ (eF c86) (WC.skip (viaQ_ hK68 ?_))
   refine fin0 Try.f110 hR67 ⟨_, rfl, ?_⟩ (Or.inr rfl)
   refine dn_ hK62 (rg_ (b_ bin_add64 ?_))
   refine mv_ ?_
   refine WL.done ?_
   exact wr_ k58 iq ⟨(wrap64 (i39 + 1)), (xs40.set (x1.f0.getD i39.toNat 0).toNat (wrap64 ((xs40.getD (x1.f0.getD i39.toNat 0).toNat 0) - 1))), (.slice (some ad85) ((xs40.set (x1.f0.getD i39.toNat 0).toNat (wrap64 ((xs40.getD (x1.f0.getD i39.toNat 0).toNat 0) - 1))).length) c82), I76, xs43, v44, I45, bl46, ⟨_, H, Ho38⟩, rfl, (St.pk HS [0, 1, 2] [0] rfl rfl)⟩
 refine wy_ (eT c86) (rg_ (mv_ ?_))
 refine v_ (Run.nilCheck rfl rfl) ?_
 refine v_ (fa_ underlying58) ?_
 obtain ⟨A87, c88, rfl⟩ := row_slice (HS.mu 1 rfl)
 refine v_ (lb_ (HS.mu 0 rfl) underlying56 rfl) ?_
 refine mv_ ?_
 obtain ⟨⟨q89, q90⟩, H⟩ := if_some H
 obtain ⟨ad91, rfl⟩ := row_open (HS.mu 1 rfl) (by omega)
 refine v_ (ia_ underlying56 1 q89 q90) ?_
 have hk_ := mul_room q89 q90 1
 refine WL.putEl HS 1 rfl rfl rfl rfl rfl rfl [sn] rfl (oneL rfl) (by kernel_rfl) (by first | omega | (rw [List.length_nil]; omega) | (simp; omega)) (fun w92 I93 hI94 HS => ?_)
 dsimp only [List.set] at HS
 clear hk_
 replace HS := HS.rowN 1 rfl (show xs43.length = (xs43.set (x1.f0.getD i39.toNat 0).toNat ([])).length from (List.length_set ..).symm)
 dsimp only [List.set] at HS
 replace HS := HS.nilV (α := S62) 62 (dq62)
 replace HS := HS.front 3 rfl
 dsimp only [List.eraseIdx] at HS
 replace HS := HS.front 1 rfl
 dsimp only [List.eraseIdx] at HS
 obtain ⟨bl95, HS⟩ := HS.elsSet (x1.f0.getD i39.toNat 0).toNat rfl hI94 (toNat_lt q89 q90)
 generalize hv97 : (Value.slice (some ad91) xs43.length c88) = v96 at HS ⊢
 refine WL.done ?_
 refine viaQ_ hK68 ?_
 refine fin0 Try.f110 hR67 ⟨_, rfl, ?_⟩ (Or.inr rfl)
 refine dn_ hK62 (rg_ (b_ bin_add64 ?_))
 refine mv_ ?_
 refine WL.done ?_
 exact wr_ k58 iq ⟨(wrap64 (i39 + 1)), (xs40.set (x1.f0.getD i39.toNat 0).toNat (wrap64 ((xs40.getD (x1.f0.getD i39.toNat 0).toNat 0) - 1))), (.slice (some ad85) ((xs40.set (x1.f0.getD i39.toNat 0).toNat (wrap64 ((xs40.getD (x1.f0.getD i39.toNat 0).toNat 0) - 1))).length) c82), I76, (xs43.set (x1.f0.getD i39.toNat 0).toNat ([])), v96, I93, bl95, ⟨_, H, Ho38⟩, rfl, (St.pk (St.front (St.front (St.front (St.front (St.front (St.front (St.front HS 6 rfl) 6 rfl) 6 rfl) 6 rfl) 4 rfl) 6 rfl) 6 rfl) [0, 1, 2] [0] rfl rfl)⟩
def impl_FreePages.b0 (l0 : List Int) (rec_ : Int → Int → Option (Int × Int)) (k23 : Nat) (i15 : Int) (i16 : Int) : Option (Int × Int) := (if i16 < (l0.length : Int) then (if 0 ≤ i16 ∧ i16 < (l0.length : Int) then (if (l0.getD i16.toNat 0) = 0 then (rec_ (wrap64 (i15 + 1)) (wrap64 (i16 + 1))) else (rec_ i15 (wrap64 (i16 + 1)))) else none) else (some (i15, i16)))
def impl_FreePages.l0 (l0 : List Int) : Nat → Int → Int → Option (Int × Int)
 | 0, _, _ => none
 | k + 1, i15, i16 => impl_FreePages.b0 l0 (impl_FreePages.l0 l0 k) k i15 i16
def impl_FreePages.g (k : Nat) (l0 : List Int) : Option Int := ((impl_PoolOk.g k l0).bind fun t4 => (if t4 = true then ((impl_FreePages.l0 l0 k 0 0).bind (fun oc21 => (some oc21.1))) else (some 0)))
theorem impl_FreePages.runs (k : Nat) (A0 : Option Addr) (c0 : Nat) (l0 : List Int) (r : Int) (w : World) (hr0 : kI.C w A0 l0.length l0) (hc0 : l0.length ≤ c0) (H : impl_FreePages.g k l0 = some r) :
   Calls prog 56 #[.slice A0 l0.length c0] w fun e w' => e = .returned (vi r) ∧ Below w.heap.size w w' := by
 unfold impl_FreePages.g at H
 have HS : St (fun _ => True) w w [] [(cF kI A0 l0)] [] := St.start (foot_cons (foot_C (Kd.heap_int _) hr0) foot_nil)
 refine cw_ (n := 21) func56 fun R_ hR_ => ?_
 refine sr_ fun _ hK1 => ?_
 refine ad_ hK1 ?_
 refine WC.seq fun _ hK2 => ?_
 refine sr_ fun _ hK3 => ?_
 refine mv_ ?_
 obtain ⟨t4, ha5, H⟩ := bind_some H
 refine cs_ HS func117 (impl_PoolOk.runs k A0 c0 l0 t4 _ (HS.getO 0 rfl) hc0 ha5) (fun w6 HS => ?_)
 clear ha5
 refine nt_ ?_
 refine dn_ hK3 ?_
 rcases eti_ H with ⟨c7, H⟩ | ⟨c7, H⟩
 · refine wy_ (nB (bF c7)) (sr_ fun _ hK34 => ?_)
   refine ad_ hK34 ?_
   obtain rfl := os H
   exact rt1 Try.f56 rfl rfl hR_ ⟨rfl, HS.b⟩
 refine wn_ (nB c7) (WC.skip (via_ hK2 (sr_ fun _ hK8 => ?_)))
 refine ad_ hK8 ?_
 refine WC.seq fun K9 hK9 => ?_
 refine sr_ fun _ hK10 => ?_
 refine mv_ ?_
 refine ln_ underlying22 ?_
 refine mv_ ?_
 refine dn_ hK10 (WC.block ?_)
 obtain ⟨G11, hG12, oc13, H, Ho14⟩ := open_G H
 let J17 := fun (i15 : Int) (i16 : Int) (E_ : Env) (W_ : World) => E_ = [(3, vi i15), (9, .slice A0 l0.length c0), (10, vi (l0.length : Int)), (11, vi i16)] ∧ St (fun _ => True) w W_ [] [(cF kI A0 l0)] []
 have X18 : ∀ E_ W_, (∃ i15 i16, G11 (i15, i16) = some r ∧ J17 i15 i16 E_ W_) → ∀ a, Fits a 21 E_ → K9 a W_ := by
   rintro E_ w19 ⟨i15, i16, H, rfl, HS⟩
   rw [hG12] at H
   (try dsimp only at H)
   refine hK9 _ _ ?_
   refine sr_ fun _ hK20 => ?_
   refine mv_ ?_
   refine ad_ hK20 ?_
   obtain rfl := os H
   exact rt1 Try.f56 rfl rfl hR_ ⟨rfl, HS.b⟩
 clear hK9
 refine WC.loop (fun k_ E_ W_ => ∃ i15 i16, (∃ o_, impl_FreePages.l0 l0 k_ i15 i16 = some o_ ∧ G11 o_ = some r) ∧ J17 i15 i16 E_ W_) k ⟨0, 0, ⟨_, H, Ho14⟩, rfl, HS⟩ (sb rfl) ?_
 rintro k_ E_ w22 ⟨i15, i16, ⟨oc13, H, Ho14⟩, rfl, HS⟩
 rcases k_ with _ | k23
 · exact no_ H
 replace H : impl_FreePages.b0 l0 (impl_FreePages.l0 l0 k23) k23 i15 i16 = some oc13 := H
 unfold impl_FreePages.b0 at H
 refine sr_ fun _ hK24 => ?_
 refine b_ bin_lss ?_
 refine dn_ hK24 (WC.seq fun _ hK25 => ?_)
 rcases eti_ H with ⟨c26, H⟩ | ⟨c26, H⟩
 · refine wn_ (dF c26) (WC.exit ?_)
   obtain rfl := os H
   exact wv_ iq X18 ⟨i15, i16, Ho14, rfl, HS⟩
 refine wy_ (dT c26) (WC.skip (via_ hK25 (WC.seq fun _ hK27 => ?_)))
 refine WC.block (sr_ fun _ hK28 => ?_)
 obtain ⟨⟨q29, q30⟩, H⟩ := if_some H
 obtain ⟨ad31, rfl⟩ := C_open (HS.getO 0 rfl) (by omega)
 refine v_ (ia_ underlying22 1 q29 q30) ?_
 refine v_ (Run.load rfl rfl underlying3 rfl (int_cell (HS.getO 0 rfl) i16 q29 q30)) ?_
 refine ad_ hK28 ?_
 refine sr_ fun _ hK32 => ?_
 refine mv_ ?_
 refine b_ bin_eql ?_
 refine dn_ hK32 ?_
 rcases eti_ H with ⟨c33, H⟩ | ⟨c33, H⟩
 · refine wn_ (eF c33) (WC.skip (via_ hK27 (rg_ (b_ bin_add64 ?_))))
   refine mv_ ?_
   refine WL.done ?_
   exact wr_ k23 iq ⟨i15, (wrap64 (i16 + 1)), ⟨_, H, Ho14⟩, rfl, HS⟩
 refine wy_ (eT c33) (rg_ (mv_ ?_))
 refine b_ bin_add64 ?_
 refine ad_ hK27 ?_
 refine rg_ (b_ bin_add64 ?_)
 refine mv_ ?_
 refine WL.done ?_
 exact wr_ k23 iq ⟨(wrap64 (i15 + 1)), (wrap64 (i16 + 1)), ⟨_, H, Ho14⟩, rfl, HS⟩
def laws_FnForkTables.g (k : Nat) (l0 : List Int) : Option Bool := ((laws_big.g k l0).bind fun t4 => (if t4 = true then (some true) else ((spec_DrawRightStore.g k l0).bind fun t10 => ((spec_DrawPlaces.g k l0).bind fun t40 => (if (0 : Int) ≤ 1 ∧ 1 < (t40.length : Int) then (if (t10.2.1.length : Int) ≠ 0 then (if 0 ≤ (Int.tmod (t40.getD (1 : Int).toNat 0) (t10.2.1.length : Int)) ∧ (Int.tmod (t40.getD (1 : Int).toNat 0) (t10.2.1.length : Int)) < (t10.2.1.length : Int) then ((impl_ForkTable.g k (⟨t10.1.f0, t10.1.f1⟩ : S58) (t10.2.1.getD (Int.tmod (t40.getD (1 : Int).toNat 0) (t10.2.1.length : Int)).toNat o67)).bind fun t63 => (if t63.2.2 = true then ((spec_CellsOf.g k (⟨t10.1.f0, t10.1.f1⟩ : S58) (t10.2.1.getD (Int.tmod (t40.getD (1 : Int).toNat 0) (t10.2.1.length : Int)).toNat o67)).bind fun t218 => ((impl_AddCell.g k (⟨t63.1.f0, t63.1.f1⟩ : S58) (⟨t63.2.1.f0, t63.2.1.f1⟩ : S67) (⟨t10.2.2.f0, t10.2.2.f1⟩ : S62)).bind fun t226 => (((if t226.2.2 = true then ((impl_CellsOf.g k (⟨t226.1.f0, t226.1.f1⟩ : S58) (⟨t226.2.1.f0, t226.2.1.f1⟩ : S67)).bind fun t299 => ((impl_CellsOf.g k (⟨t226.1.f0, t226.1.f1⟩ : S58) (t10.2.1.getD (Int.tmod (t40.getD (1 : Int).toNat 0) (t10.2.1.length : Int)).toNat o67)).bind fun t308 => (if t308.2 = true then ((laws_sameCells.g k t308.1 t218.1).bind fun t320 => (if t320 = true then (if (t299.1.length : Int) = (wrap64 ((t218.1.length : Int) + 1)) then ((impl_DropTable.g k (⟨t226.1.f0, t226.1.f1⟩ : S58) (⟨t226.2.1.f0, t226.2.1.f1⟩ : S67)).bind fun t328 => ((impl_CellsOf.g k (⟨t328.1.f0, t328.1.f1⟩ : S58) (t10.2.1.getD (Int.tmod (t40.getD (1 : Int).toNat 0) (t10.2.1.length : Int)).toNat o67)).bind fun t348 => (if t328.2 = true then (if t348.2 = true then ((laws_sameCells.g k t348.1 t218.1).bind fun t361 => (if t361 = true then ((impl_FreePages.g k t328.1.f0).bind fun t365 => ((impl_FreePages.g k t10.1.f0).bind fun t368 => (if t365 = t368 then (some (Sum.inr ())) else (some (Sum.inl false))))) else (some (Sum.inl false)))) else (some (Sum.inl false))) else (some (Sum.inl false))))) else (some (Sum.inl false))) else (some (Sum.inl false)))) else (some (Sum.inl false))))) else (some (Sum.inr ()))) : Option (Bool ⊕ Unit)).bind (fun oc295 => match oc295 with | .inl r_ => some r_ | .inr _ => ((impl_DropTable.g k (⟨t63.1.f0, t63.1.f1⟩ : S58) (⟨t63.2.1.f0, t63.2.1.f1⟩ : S67)).bind fun t261 => (if t261.2 = true then ((laws_sameInts.g k t261.1.f0 t10.1.f0).bind fun t282 => (if t282 = true then ((impl_TableOk.g k (⟨t261.1.f0, t261.1.f1⟩ : S58) (t10.2.1.getD (Int.tmod (t40.getD (1 : Int).toNat 0) (t10.2.1.length : Int)).toNat o67)).bind fun t292 => (some t292)) else (some false))) else (some false))))))) else (some false))) else none) else none) else none)))))
theorem laws_FnForkTables.runs (k : Nat) (A0 : Option Addr) (c0 : Nat) (l0 : List Int) (r : Bool) (w : World) (hr0 : kU.C w A0 l0.length l0) (hc0 : l0.length ≤ c0) (H : laws_FnForkTables.g k l0 = some r) :
   Calls prog 10 #[.slice A0 l0.length c0] w fun e w' => e = .returned (.bool r) ∧ Below w.heap.size w w' := by
 unfold laws_FnForkTables.g at H
 have HS : St (fun _ => True) w w [] [(cF kU A0 l0)] [] := St.start (foot_cons (foot_C (Kd.heap_int _) hr0) foot_nil)
 refine cw_ (n := 159) func10 fun R_ hR_ => ?_
 refine sr_ fun _ hK1 => ?_
 refine ad_ hK1 ?_
 clear hK1
 refine WC.seq fun _ hK2 => ?_
 refine sr_ fun _ hK3 => ?_
 exact by (
 refine mv_ ?_
 obtain ⟨t4, ha5, H⟩ := bind_some H
 refine cs_ HS func37 (laws_big.runs k A0 c0 l0 t4 _ (HS.getO 0 rfl) hc0 ha5) (fun w6 HS => ?_)
 clear ha5
 refine dn_ hK3 ?_
 clear hK3
 rcases ite_ H with ⟨c7, H⟩ | ⟨c7, H⟩
 · refine wy_ c7 ?_
   exact by (
   refine sr_ fun _ hK8 => ?_
   refine ad_ hK8 ?_
   clear hK8
   obtain rfl := os H
   exact rt1 Try.f10 rfl rfl hR_ ⟨rfl, HS.b⟩ )
 refine wn_ (bF c7) (WC.skip (via_ hK2 (sr_ fun _ hK9 => ?_)))
 clear hK2
 refine mv_ ?_
 exact by (
 obtain ⟨t10, ha11, H⟩ := bind_some H
 refine c_ func43 (spec_DrawRightStore.runs k A0 c0 l0 t10.1 t10.2.1 t10.2.2 _ (HS.getO 0 rfl) hc0 ha11) ?_
 clear ha11
 rintro _ w12 ⟨A13, c14, A17, c18, A21, c22, A25, c26, A29, c30, rfl, le15, hf16, le19, hf20, le23, hf24, le27, hf28, le31, hf32, hb⟩
 replace HS := HS.newNs hb (foot_cons hf16 (foot_cons hf20 (foot_cons hf24 (foot_cons hf28 (foot_cons hf32 foot_nil)))))
 refine ⟨_, rfl, ?_⟩
 clear hb
 refine mv_ ?_
 exact by (
 refine v_ (Run.extract rfl rfl rfl) ?_
 refine v_ (Run.extract rfl rfl rfl) ?_
 refine v_ (Run.extract rfl rfl rfl) ?_
 refine WL.alloc HS (v := .agg #[sn, sn]) (cs := #[sn, sn]) rfl rfl (by decide) rfl (by kernel_rfl) rfl (fun b33 w34 hb33 HS => ?_)
 refine WL.alloc HS (v := .agg #[sn, sn]) (cs := #[sn, sn]) rfl rfl (by decide) rfl (by kernel_rfl) rfl (fun b35 w36 hb35 HS => ?_)
 refine WL.storeW HS 1 rfl rfl rfl rfl rfl rfl (oneL rfl) (by kernel_rfl) rfl (fun w37 HS => ?_)
 dsimp only [List.set] at HS
 refine as_ ?_
 exact by (
 refine WL.storeW HS 0 rfl rfl rfl rfl rfl rfl (oneL rfl) (by kernel_rfl) rfl (fun w38 HS => ?_)
 dsimp only [List.set] at HS
 refine dn_ hK9 (sr_ fun _ hK39 => ?_)
 clear hK9
 refine mv_ ?_
 obtain ⟨t40, ha41, H⟩ := bind_some H
 refine c_ func44 (spec_DrawPlaces.runs k A0 c0 l0 t40 _ (HS.getO 0 rfl) hc0 ha41) ?_
 clear ha41
 exact by (
 rintro _ w42 ⟨A43, c44, rfl, le45, hf46, hb⟩
 replace HS := HS.newNs hb (foot_cons hf46 foot_nil)
 refine ⟨_, rfl, ?_⟩
 clear hb
 obtain ⟨⟨q47, q48⟩, H⟩ := if_some H
 obtain ⟨ad49, rfl⟩ := C_open (HS.getN 0 rfl) (by omega)
 refine v_ (ia_ underlying22 1 q47 q48) ?_
 refine v_ (Run.load rfl rfl underlying3 rfl (int_cell (HS.getN 0 rfl) 1 q47 q48)) ?_
 exact by (
 refine mv_ ?_
 refine ln_ underlying59 ?_
 obtain ⟨z50, H⟩ := if_some H
 refine b_ (bin_rem z50) ?_
 refine ad_ hK39 ?_
 clear hK39
 refine WC.seq fun K51 hK51 => ?_
 obtain ⟨⟨q52, q53⟩, H⟩ := if_some H
 exact by (
 obtain ⟨ad54, rfl⟩ := C_open (HS.getN 3 rfl) (by omega)
 obtain ⟨e55, el56, HS⟩ := HS.elN 3 rfl (by decide) o67 (Int.tmod (t40.getD (1 : Int).toNat 0) (t10.2.1.length : Int)) q52 q53
 refine WC.drawW HS [boxM b35 #[.slice A25 t10.2.2.f0.length c26, .slice A29 t10.2.2.f1.length c30] 62, boxM b33 #[.slice A13 t10.1.f0.length c14, .slice A17 t10.1.f1.length c18] 58] (fun _ HS => ⟨(HS.mu 0 rfl), (HS.mu 1 rfl), trivial⟩) [] rfl rfl (fun w57 HS => ?_)
 refine dm_ 1 ?_
 refine dm_ 2 ?_
 refine di_ 3 underlying59 2 q52 q53 ?_
 refine dt_ 0 ⟨HS.nowO, HS.nowN, ⟨(HS.mu 0 rfl), (HS.mu 1 rfl), trivial⟩⟩ (fun w_ hw_ => Run.loadS (cs := [.slice A13 t10.1.f0.length c14, .slice A17 t10.1.f1.length c18]) rfl rfl underlying58 rfl (by kernel_rfl) (box_part hw_.2.2.2.1 part_all)) ?_
 obtain ⟨A58, c59, hc60, le61, HS⟩ := HS.eN 0 rfl at67_0
 exact by (
 refine dt_ 4 ⟨HS.nowO, HS.nowN.2, ⟨(HS.mu 0 rfl), (HS.mu 1 rfl), trivial⟩⟩ (fun w_ hw_ => Run.loadS (cs := [.slice A58 ((t10.2.1.getD (Int.tmod (t40.getD (1 : Int).toNat 0) (t10.2.1.length : Int)).toNat o67).f0.length) c59, vi ((t10.2.1.getD (Int.tmod (t40.getD (1 : Int).toNat 0) (t10.2.1.length : Int)).toNat o67).f1)]) rfl rfl underlying67 rfl (by kernel_rfl) (cells_part (AllF.get 0 rfl hw_.2.1).2 (part_cons hc60 (part_cons (at67_1 (AtK.whole (AllF.get 0 rfl hw_.2.1).1)).int part_nil)))) ?_
 have X62 : ∀ E_ W_, (∃ (b78 : Nat) (b80 : Nat) (t63 : S58 × S67 × Bool) (A83 : Option Addr) (c84 : Nat) (A85 : Option Addr) (c86 : Nat) (A88 : Option Addr) (c89 : Nat) (I76 : List Value) (I74 : List Value) (I72 : List Value), E_ = [(0, .slice A0 l0.length c0), (2, .bool false), (3, .pointer (some ⟨b33, 0, none⟩)), (4, .slice (some ad54) t10.2.1.length c22), (5, .pointer (some ⟨b35, 0, none⟩)), (6, vi (Int.tmod (t40.getD (1 : Int).toNat 0) (t10.2.1.length : Int))), (7, .pointer (some ⟨b78, 0, none⟩)), (8, .pointer (some ⟨b80, 0, none⟩)), (9, .bool t63.2.2), (25, .slice A0 l0.length c0), (26, .bool t4), (28, .slice A0 l0.length c0), (30, .agg #[.slice A13 t10.1.f0.length c14, .slice A17 t10.1.f1.length c18]), (31, .slice (some ad54) t10.2.1.length c22), (32, .agg #[.slice A25 t10.2.2.f0.length c26, .slice A29 t10.2.2.f1.length c30]), (33, .slice A0 l0.length c0), (34, .slice (some ad49) t40.length c44), (36, vi (t40.getD (1 : Int).toNat 0)), (37, .slice (some ad54) t10.2.1.length c22), (38, vi (t10.2.1.length : Int)), (39, vi (Int.tmod (t40.getD (1 : Int).toNat 0) (t10.2.1.length : Int))), (41, .agg #[.slice A13 t10.1.f0.length c14, .slice A17 t10.1.f1.length c18]), (42, .slice (some ad54) t10.2.1.length c22), (43, vi (Int.tmod (t40.getD (1 : Int).toNat 0) (t10.2.1.length : Int))), (45, .agg #[.slice A58 ((t10.2.1.getD (Int.tmod (t40.getD (1 : Int).toNat 0) (t10.2.1.length : Int)).toNat o67).f0.length) c59, vi ((t10.2.1.getD (Int.tmod (t40.getD (1 : Int).toNat 0) (t10.2.1.length : Int)).toNat o67).f1)]), (47, .agg #[(.slice A83 t63.1.f0.length c84), (.slice A85 t63.1.f1.length c86)]), (48, .agg #[(.slice A88 t63.2.1.f0.length c89), vi t63.2.1.f1]), (49, .bool t63.2.2)] ∧ (if t63.2.2 = true then ((spec_CellsOf.g k (⟨t10.1.f0, t10.1.f1⟩ : S58) (t10.2.1.getD (Int.tmod (t40.getD (1 : Int).toNat 0) (t10.2.1.length : Int)).toNat o67)).bind fun t218 => ((impl_AddCell.g k (⟨t63.1.f0, t63.1.f1⟩ : S58) (⟨t63.2.1.f0, t63.2.1.f1⟩ : S67) (⟨t10.2.2.f0, t10.2.2.f1⟩ : S62)).bind fun t226 => (((if t226.2.2 = true then ((impl_CellsOf.g k (⟨t226.1.f0, t226.1.f1⟩ : S58) (⟨t226.2.1.f0, t226.2.1.f1⟩ : S67)).bind fun t299 => ((impl_CellsOf.g k (⟨t226.1.f0, t226.1.f1⟩ : S58) (t10.2.1.getD (Int.tmod (t40.getD (1 : Int).toNat 0) (t10.2.1.length : Int)).toNat o67)).bind fun t308 => (if t308.2 = true then ((laws_sameCells.g k t308.1 t218.1).bind fun t320 => (if t320 = true then (if (t299.1.length : Int) = (wrap64 ((t218.1.length : Int) + 1)) then ((impl_DropTable.g k (⟨t226.1.f0, t226.1.f1⟩ : S58) (⟨t226.2.1.f0, t226.2.1.f1⟩ : S67)).bind fun t328 => ((impl_CellsOf.g k (⟨t328.1.f0, t328.1.f1⟩ : S58) (t10.2.1.getD (Int.tmod (t40.getD (1 : Int).toNat 0) (t10.2.1.length : Int)).toNat o67)).bind fun t348 => (if t328.2 = true then (if t348.2 = true then ((laws_sameCells.g k t348.1 t218.1).bind fun t361 => (if t361 = true then ((impl_FreePages.g k t328.1.f0).bind fun t365 => ((impl_FreePages.g k t10.1.f0).bind fun t368 => (if t365 = t368 then (some (Sum.inr ())) else (some (Sum.inl false))))) else (some (Sum.inl false)))) else (some (Sum.inl false))) else (some (Sum.inl false))))) else (some (Sum.inl false))) else (some (Sum.inl false)))) else (some (Sum.inl false))))) else (some (Sum.inr ()))) : Option (Bool ⊕ Unit)).bind (fun oc295 => match oc295 with | .inl r_ => some r_ | .inr _ => ((impl_DropTable.g k (⟨t63.1.f0, t63.1.f1⟩ : S58) (⟨t63.2.1.f0, t63.2.1.f1⟩ : S67)).bind fun t261 => (if t261.2 = true then ((laws_sameInts.g k t261.1.f0 t10.1.f0).bind fun t282 => (if t282 = true then ((impl_TableOk.g k (⟨t261.1.f0, t261.1.f1⟩ : S58) (t10.2.1.getD (Int.tmod (t40.getD (1 : Int).toNat 0) (t10.2.1.length : Int)).toNat o67)).bind fun t292 => (some t292)) else (some false))) else (some false))))))) else (some false)) = some r ∧ St (fun _ => True) w W_ [boxM b80 #[(.slice A88 t63.2.1.f0.length c89), vi t63.2.1.f1] 67, boxM b78 #[(.slice A83 t63.1.f0.length c84), (.slice A85 t63.1.f1.length c86)] 58, rowM w.heap.size 3 1 (.slice A88 t63.2.1.f0.length c89) t63.2.1.f0.length I76, rowM w.heap.size 71 1 (.slice A85 t63.1.f1.length c86) t63.1.f1.length I74, rowM w.heap.size 3 1 (.slice A83 t63.1.f0.length c84) t63.1.f0.length I72, boxM b35 #[.slice A25 t10.2.2.f0.length c26, .slice A29 t10.2.2.f1.length c30] 62, boxM b33 #[.slice A13 t10.1.f0.length c14, .slice A17 t10.1.f1.length c18] 58] [(cF kU A0 l0)] [(rF kI t63.2.1.f0 I76), (rF kS62 t63.1.f1 I74), (rF kI t63.1.f0 I72), (cF kI A58 (t10.2.1.getD (Int.tmod (t40.getD (1 : Int).toNat 0) (t10.2.1.length : Int)).toNat o67).f0), (fun W => k67.K W (t10.2.1.getD (Int.tmod (t40.getD (1 : Int).toNat 0) (t10.2.1.length : Int)).toNat o67) e55 ∧ ∀ i u, e55[i]? = some u → W.cell? ((ad54.add ((Int.tmod (t40.getD (1 : Int).toNat 0) (t10.2.1.length : Int)).toNat * k67.sz)).add i) = some u), (cF kI (some ad49) t40), (cF kI A13 t10.1.f0), (cF kS62 A17 t10.1.f1), (cF k67 (some ad54) t10.2.1), (cF kS149 A25 t10.2.2.f0), (cF kS149 A29 t10.2.2.f1)]) → ∀ a, Fits a 159 E_ → K51 a W_ := by
   rintro E_ w206 ⟨b78, b80, t63, A83, c84, A85, c86, A88, c89, I76, I74, I72, rfl, H, HS⟩
   refine hK51 _ _ ?_
   clear hK51
   refine WC.seq fun _ hK207 => ?_
   refine sr_ fun _ hK208 => ?_
   refine mv_ ?_
   exact by (
   refine nt_ ?_
   refine dn_ hK208 ?_
   clear hK208
   rcases eti_ H with ⟨c209, H⟩ | ⟨c209, H⟩
   · refine wy_ (nB (bF c209)) (sr_ fun _ hK379 => ?_)
     refine ad_ hK379 ?_
     clear hK379
     obtain rfl := os H
     exact rt1 Try.f10 rfl rfl hR_ ⟨rfl, HS.b⟩
   exact by (
   refine wn_ (nB c209) (WC.skip (via_ hK207 (WC.seq fun _ hK210 => ?_)))
   clear hK207
   refine WC.drawS HS [] rfl rfl (fun w211 HS => ?_)
   have HB := Below.refl w211.heap.size w211
   have HSW := HS
   refine dm_ 1 ?_
   refine dm_ 2 ?_
   refine di_ 3 underlying59 2 q52 q53 ?_
   exact by (
   refine dt_ 0 (Below.refl _ _) (fun w_ hw_ => Run.loadS (cs := [.slice A13 t10.1.f0.length c14, .slice A17 t10.1.f1.length c18]) rfl rfl underlying58 rfl (by kernel_rfl) (box_part ((HS.below hw_).mu 6 rfl) part_all)) ?_
   obtain ⟨e212, el213, HS⟩ := HS.elN 8 rfl (by decide) o67 (Int.tmod (t40.getD (1 : Int).toNat 0) (t10.2.1.length : Int)) q52 q53
   replace HSW := HS
   obtain ⟨A214, c215, hc216, le217, HS⟩ := HS.eN 0 rfl at67_0
   refine dt_ 4 (Below.refl _ _) (fun w_ hw_ => Run.loadS (cs := [.slice A214 ((t10.2.1.getD (Int.tmod (t40.getD (1 : Int).toNat 0) (t10.2.1.length : Int)).toNat o67).f0.length) c215, vi ((t10.2.1.getD (Int.tmod (t40.getD (1 : Int).toNat 0) (t10.2.1.length : Int)).toNat o67).f1)]) rfl rfl underlying67 rfl (by kernel_rfl) (cells_part ((HS.below hw_).getN 1 rfl).2 (part_cons hc216 (part_cons (at67_1 (AtK.whole ((HS.below hw_).getN 1 rfl).1)).int part_nil)))) ?_
   obtain ⟨t218, ha219, H⟩ := bind_some H
   refine dc_ 5 (w_none rfl) func48 (spec_CellsOf.runs k (⟨t10.1.f0, t10.1.f1⟩ : S58) A13 c14 A17 c18 (t10.2.1.getD (Int.tmod (t40.getD (1 : Int).toNat 0) (t10.2.1.length : Int)).toNat o67) A214 c215 t218.1 t218.2 _ (HS.getN 8 rfl) le15 (HS.getN 9 rfl) le19 (HS.getN 0 rfl) le217 ha219) ?_
   clear ha219
   exact by (
   rintro _ w220 ⟨A221, c222, rfl, le223, hf224, hb⟩
   replace HB := HB.trans (hb.mono HB.size)
   replace HS := HS.newNs hb (foot_cons hf224 foot_nil)
   refine ⟨HB, _, rfl, ?_⟩
   clear hb
   refine dm_ 6 ?_
   refine dp_ 7 (fun _ => Run.extract rfl rfl rfl) ?_
   refine dp_ 8 (fun _ => Run.extract rfl rfl rfl) ?_
   exact by (
   refine dp_ 9 (fun _ => Run.assign rfl rfl) ?_
   refine dp_ 10 (fun _ => Run.assign rfl rfl) ?_
   refine dd_ ?_
   clear HB HSW
   refine via_ hK210 (sr_ fun _ hK225 => ?_)
   clear hK210
   refine v_ (ls_ (HS.mu 1 rfl) underlying58 part_all) ?_
   refine v_ (ls_ (HS.mu 0 rfl) underlying67 part_all) ?_
   exact by (
   refine v_ (ls_ (HS.mu 5 rfl) underlying62 part_all) ?_
   obtain ⟨t226, ha227, H⟩ := bind_some H
   refine c_ func45 (impl_AddCell.runs k (⟨t63.1.f0, t63.1.f1⟩ : S58) A83 c84 A85 c86 (⟨t63.2.1.f0, t63.2.1.f1⟩ : S67) A88 c89 (⟨t10.2.2.f0, t10.2.2.f1⟩ : S62) A25 c26 A29 c30 t226.1 t226.2.1 t226.2.2 _ (row_C rfl (HS.mu 4 rfl) (HS.getN 5 rfl)) (row_le (HS.mu 4 rfl)) (row_C rfl (HS.mu 3 rfl) (HS.getN 4 rfl)) (row_le (HS.mu 3 rfl)) (row_C rfl (HS.mu 2 rfl) (HS.getN 3 rfl)) (row_le (HS.mu 2 rfl)) (HS.getN 12 rfl) le27 (HS.getN 13 rfl) le31 ha227) ?_
   clear ha227
   rintro _ w228 ⟨v229, bl230, v231, bl232, v233, bl234, rfl, hO_, hb⟩
   replace HS := HS.got hb hO_
   dsimp only [List.cons_append, List.nil_append] at HS
   clear hO_
   exact by (
   obtain ⟨I235, bl236, HS⟩ := HS.unseal (sz := 1) rfl
   replace HS := HS.freezeN 1 (p := (rF kI t226.1.f0 I235)) rfl (fun _ hP_ _ => RepsB.reps hP_)
   dsimp only [List.eraseIdx] at HS
   replace HS := HS.front 1 rfl
   dsimp only [List.eraseIdx] at HS
   obtain ⟨I237, bl238, HS⟩ := HS.unseal (sz := 1) rfl
   replace HS := HS.freezeN 1 (p := (rF kS62 t226.1.f1 I237)) rfl (fun _ hP_ _ => RepsB.reps hP_)
   dsimp only [List.eraseIdx] at HS
   exact by (
   replace HS := HS.front 2 rfl
   dsimp only [List.eraseIdx] at HS
   obtain ⟨I239, bl240, HS⟩ := HS.unseal (sz := 1) rfl
   replace HS := HS.freezeN 1 (p := (rF kI t226.2.1.f0 I239)) rfl (fun _ hP_ _ => RepsB.reps hP_)
   dsimp only [List.eraseIdx] at HS
   refine ⟨_, rfl, ?_⟩
   clear hb
   refine mv_ ?_
   exact by (
   refine v_ (Run.extract rfl rfl rfl) ?_
   refine v_ (Run.extract rfl rfl rfl) ?_
   refine v_ (Run.extract rfl rfl rfl) ?_
   refine WL.alloc HS (v := .agg #[sn, sn]) (cs := #[sn, sn]) rfl rfl (by decide) rfl (by kernel_rfl) rfl (fun b241 w242 hb241 HS => ?_)
   refine WL.alloc HS (v := .agg #[sn, vi 0]) (cs := #[sn, vi 0]) rfl rfl (by decide) rfl (by kernel_rfl) rfl (fun b243 w244 hb243 HS => ?_)
   obtain ⟨A246, c247, rfl⟩ := row_slice (HS.mu 4 rfl)
   obtain ⟨A248, c249, rfl⟩ := row_slice (HS.mu 3 rfl)
   refine WL.storeW HS 1 rfl rfl rfl rfl rfl rfl (oneL rfl) (by kernel_rfl) rfl (fun w245 HS => ?_)
   exact by (
   dsimp only [List.set] at HS
   obtain ⟨A251, c252, rfl⟩ := row_slice (HS.mu 2 rfl)
   refine WL.storeW HS 0 rfl rfl rfl rfl rfl rfl (oneL rfl) (by kernel_rfl) rfl (fun w250 HS => ?_)
   dsimp only [List.set] at HS
   refine ad_ hK225 ?_
   clear hK225
   refine WC.seq fun K253 hK253 => ?_
   obtain ⟨G254, hG255, oc256, H, Ho257⟩ := open_G H
   exact by (
   have X258 : ∀ E_ W_, (E_ = [(3, .pointer (some ⟨b33, 0, none⟩)), (4, .slice (some ad54) t10.2.1.length c22), (6, vi (Int.tmod (t40.getD (1 : Int).toNat 0) (t10.2.1.length : Int))), (7, .pointer (some ⟨b78, 0, none⟩)), (8, .pointer (some ⟨b80, 0, none⟩))] ∧ G254 (Sum.inr ()) = some r ∧ St (fun _ => True) w W_ [boxM b243 #[(.slice A251 t226.2.1.f0.length c252), vi t226.2.1.f1] 67, boxM b241 #[(.slice A246 t226.1.f0.length c247), (.slice A248 t226.1.f1.length c249)] 58, rowM w.heap.size 3 1 (.slice A251 t226.2.1.f0.length c252) t226.2.1.f0.length I239, rowM w.heap.size 71 1 (.slice A248 t226.1.f1.length c249) t226.1.f1.length I237, rowM w.heap.size 3 1 (.slice A246 t226.1.f0.length c247) t226.1.f0.length I235, boxM b80 #[(.slice A88 t63.2.1.f0.length c89), vi t63.2.1.f1] 67, boxM b78 #[(.slice A83 t63.1.f0.length c84), (.slice A85 t63.1.f1.length c86)] 58, rowM w.heap.size 3 1 (.slice A88 t63.2.1.f0.length c89) t63.2.1.f0.length I76, rowM w.heap.size 71 1 (.slice A85 t63.1.f1.length c86) t63.1.f1.length I74, rowM w.heap.size 3 1 (.slice A83 t63.1.f0.length c84) t63.1.f0.length I72, boxM b35 #[.slice A25 t10.2.2.f0.length c26, .slice A29 t10.2.2.f1.length c30] 62, boxM b33 #[.slice A13 t10.1.f0.length c14, .slice A17 t10.1.f1.length c18] 58] [(cF kU A0 l0)] [(rF kI t226.2.1.f0 I239), (rF kS62 t226.1.f1 I237), (rF kI t226.1.f0 I235), (cF kI A214 (t10.2.1.getD (Int.tmod (t40.getD (1 : Int).toNat 0) (t10.2.1.length : Int)).toNat o67).f0), (rF kI t63.2.1.f0 I76), (rF kS62 t63.1.f1 I74), (rF kI t63.1.f0 I72), (cF kI A13 t10.1.f0), (cF kS62 A17 t10.1.f1), (cF k67 (some ad54) t10.2.1), (cF kS149 A25 t10.2.2.f0), (cF kS149 A29 t10.2.2.f1)]) → ∀ a, Fits a 159 E_ → K253 a W_ := by
     rintro E_ w259 ⟨rfl, H, HS⟩
     rw [hG255] at H
     (try dsimp only at H)
     refine hK253 _ _ ?_
     clear hK253
     refine sr_ fun _ hK260 => ?_
     refine v_ (ls_ (HS.mu 6 rfl) underlying58 part_all) ?_
     exact by (
     refine v_ (ls_ (HS.mu 5 rfl) underlying67 part_all) ?_
     obtain ⟨t261, ha262, H⟩ := bind_some H
     refine c_ func55 (impl_DropTable.runs k (⟨t63.1.f0, t63.1.f1⟩ : S58) A83 c84 A85 c86 (⟨t63.2.1.f0, t63.2.1.f1⟩ : S67) A88 c89 t261.1 t261.2 _ (row_C rfl (HS.mu 9 rfl) (HS.getN 6 rfl)) (row_le (HS.mu 9 rfl)) (row_C rfl (HS.mu 8 rfl) (HS.getN 5 rfl)) (row_le (HS.mu 8 rfl)) (row_C rfl (HS.mu 7 rfl) (HS.getN 4 rfl)) (row_le (HS.mu 7 rfl)) ha262) ?_
     clear ha262
     rintro _ w263 ⟨v264, bl265, v266, bl267, rfl, hO_, hb⟩
     replace HS := HS.got hb hO_
     dsimp only [List.cons_append, List.nil_append] at HS
     clear hO_
     exact by (
     obtain ⟨I268, bl269, HS⟩ := HS.unseal (sz := 1) rfl
     replace HS := HS.freezeN 1 (p := (rF kI t261.1.f0 I268)) rfl (fun _ hP_ _ => RepsB.reps hP_)
     dsimp only [List.eraseIdx] at HS
     replace HS := HS.front 1 rfl
     dsimp only [List.eraseIdx] at HS
     obtain ⟨I270, bl271, HS⟩ := HS.unseal (sz := 1) rfl
     replace HS := HS.freezeN 1 (p := (rF kS62 t261.1.f1 I270)) rfl (fun _ hP_ _ => RepsB.reps hP_)
     dsimp only [List.eraseIdx] at HS
     exact by (
     refine ⟨_, rfl, ?_⟩
     clear hb
     refine mv_ ?_
     refine v_ (Run.extract rfl rfl rfl) ?_
     refine v_ (Run.extract rfl rfl rfl) ?_
     refine WL.alloc HS (v := .agg #[sn, sn]) (cs := #[sn, sn]) rfl rfl (by decide) rfl (by kernel_rfl) rfl (fun b272 w273 hb272 HS => ?_)
     obtain ⟨A275, c276, rfl⟩ := row_slice (HS.mu 2 rfl)
     obtain ⟨A277, c278, rfl⟩ := row_slice (HS.mu 1 rfl)
     exact by (
     refine WL.storeW HS 0 rfl rfl rfl rfl rfl rfl (oneL rfl) (by kernel_rfl) rfl (fun w274 HS => ?_)
     dsimp only [List.set] at HS
     refine ad_ hK260 ?_
     clear hK260
     refine WC.seq fun _ hK279 => ?_
     refine WC.drawS HS [] rfl rfl (fun w280 HS => ?_)
     have HB := Below.refl w280.heap.size w280
     have HSW := HS
     exact by (
     refine dm_ 0 ?_
     refine dm_ 1 ?_
     rcases eti_ H with ⟨c281, H⟩ | ⟨c281, H⟩
     · refine doF_ 2 (bF c281) ?_
       refine doF_ 3 (bF c281) ?_
       refine doF_ 4 (bF c281) ?_
       refine doF_ 5 (bF c281) ?_
       refine doF_ 6 (bF c281) ?_
       exact by (
       refine dp_ 7 (fun _ => Run.pickF rfl rfl (bF c281) rfl) ?_
       refine dm_ 8 ?_
       refine doF_ 9 rfl ?_
       refine doF_ 10 rfl ?_
       refine doF_ 11 rfl ?_
       refine doF_ 12 rfl ?_
       refine doF_ 13 rfl ?_
       refine doF_ 14 rfl ?_
       exact by (
       refine dp_ 15 (fun _ => Run.pickF rfl rfl rfl rfl) ?_
       refine dp_ 16 (fun _ => Run.assign rfl rfl) ?_
       refine dd_ ?_
       clear HB HSW
       refine via_ hK279 ?_
       clear hK279
       obtain rfl := os H
       exact rt1 Try.f10 rfl rfl hR_ ⟨rfl, HS.b⟩ ))
     exact by (
     refine dfg_ 2 c281 underlying58 ?_
     refine dfg_ 4 c281 underlying58 ?_
     refine blg_ 3 c281 HS (Below.refl _ _) 0 underlying22 rfl ?_
     refine blg_ 5 c281 HS (Below.refl _ _) 14 underlying22 rfl ?_
     obtain ⟨t282, ha283, H⟩ := bind_some H
     refine dcs_ HS HB 6 (w_on rfl rfl rfl c281) func42 (laws_sameInts.runs k A275 c276 t261.1.f0 A13 c14 t10.1.f0 t282 _ (row_C rfl (HS.mu 2 rfl) (HS.getN 1 rfl)) (row_le (HS.mu 2 rfl)) (HS.getN 9 rfl) le15 ha283) (fun w284 HS HB => ?_)
     clear ha283
     refine dp_ 7 (fun _ => Run.pickT rfl rfl c281 rfl) ?_
     exact by (
     refine dm_ 8 ?_
     rcases eti_ H with ⟨c285, H⟩ | ⟨c285, H⟩
     · refine doF_ 9 (bF c285) ?_
       refine doF_ 10 (bF c285) ?_
       refine doF_ 11 (bF c285) ?_
       refine doF_ 12 (bF c285) ?_
       refine doF_ 13 (bF c285) ?_
       refine doF_ 14 (bF c285) ?_
       exact by (
       refine dp_ 15 (fun _ => Run.pickF rfl rfl (bF c285) rfl) ?_
       refine dp_ 16 (fun _ => Run.assign rfl rfl) ?_
       refine dd_ ?_
       clear HB HSW
       refine via_ hK279 ?_
       clear hK279
       obtain rfl := os H
       exact rt1 Try.f10 rfl rfl hR_ ⟨rfl, HS.b⟩ )
     exact by (
     refine dg_ 10 c285 (fun _ => Run.move rfl rfl) ?_
     refine dg_ 11 c285 (fun _ => Run.move rfl rfl) ?_
     refine dg_ 12 c285 (fun _ => Run.indexAddr rfl rfl rfl underlying59 (sz := 2) (by kernel_rfl) q52 q53) ?_
     refine dh_ 9 c285 HB (fun w_ hw_ => Run.loadS (cs := [(.slice A275 t261.1.f0.length c276), (.slice A277 t261.1.f1.length c278)]) rfl rfl underlying58 rfl (by kernel_rfl) (box_part ((HSW.below hw_).mu 0 rfl) part_all)) ?_
     obtain ⟨e286, el287, HSW⟩ := HSW.elN 11 rfl (by decide) o67 (Int.tmod (t40.getD (1 : Int).toNat 0) (t10.2.1.length : Int)) q52 q53
     replace HS := HS.carry1N HSW HB
     obtain ⟨A288, c289, hc290, le291, HS⟩ := HS.eN 0 rfl at67_0
     refine dh_ 13 c285 HB (fun w_ hw_ => Run.loadS (cs := [.slice A288 ((t10.2.1.getD (Int.tmod (t40.getD (1 : Int).toNat 0) (t10.2.1.length : Int)).toNat o67).f0.length) c289, vi ((t10.2.1.getD (Int.tmod (t40.getD (1 : Int).toNat 0) (t10.2.1.length : Int)).toNat o67).f1)]) rfl rfl underlying67 rfl (by kernel_rfl) (cells_part ((HSW.below hw_).getN 0 rfl).2 (part_cons hc290 (part_cons (at67_1 (AtK.whole ((HSW.below hw_).getN 0 rfl).1)).int part_nil)))) ?_
     exact by (
     obtain ⟨t292, ha293, H⟩ := bind_some H
     refine dcs_ HS HB 14 (w_on rfl rfl rfl c285) func57 (impl_TableOk.runs k (⟨t261.1.f0, t261.1.f1⟩ : S58) A275 c276 A277 c278 (t10.2.1.getD (Int.tmod (t40.getD (1 : Int).toNat 0) (t10.2.1.length : Int)).toNat o67) A288 c289 t292 _ (row_C rfl (HS.mu 2 rfl) (HS.getN 3 rfl)) (row_le (HS.mu 2 rfl)) (row_C rfl (HS.mu 1 rfl) (HS.getN 2 rfl)) (row_le (HS.mu 1 rfl)) (HS.getN 0 rfl) le291 ha293) (fun w294 HS HB => ?_)
     clear ha293
     refine dp_ 15 (fun _ => Run.pickT rfl rfl c285 rfl) ?_
     refine dp_ 16 (fun _ => Run.assign rfl rfl) ?_
     refine dd_ ?_
     clear HB HSW
     refine via_ hK279 ?_
     exact by (
     clear hK279
     obtain rfl := os H
     exact rt1 Try.f10 rfl rfl hR_ ⟨rfl, HS.b⟩ ))))))))))
   clear hK253
   refine sr_ fun _ hK296 => ?_
   refine mv_ ?_
   refine dn_ hK296 ?_
   clear hK296
   exact by (
   rcases eti_ H with ⟨c297, H⟩ | ⟨c297, H⟩
   · refine wn_ (bF c297) (WC.skip ?_)
     obtain rfl := os H
     exact wv_ iq X258 ⟨rfl, Ho257, (St.pk HS [0] [0, 1, 2, 4, 6, 7, 8, 12, 13, 14, 15, 16] rfl rfl)⟩
   refine wy_ c297 ?_
   refine sr_ fun _ hK298 => ?_
   refine v_ (ls_ (HS.mu 1 rfl) underlying58 part_all) ?_
   refine v_ (ls_ (HS.mu 0 rfl) underlying67 part_all) ?_
   exact by (
   obtain ⟨t299, ha300, H⟩ := bind_some H
   refine c_ func49 (impl_CellsOf.runs k (⟨t226.1.f0, t226.1.f1⟩ : S58) A246 c247 A248 c249 (⟨t226.2.1.f0, t226.2.1.f1⟩ : S67) A251 c252 t299.1 t299.2 _ (row_C rfl (HS.mu 4 rfl) (HS.getN 2 rfl)) (row_le (HS.mu 4 rfl)) (row_C rfl (HS.mu 3 rfl) (HS.getN 1 rfl)) (row_le (HS.mu 3 rfl)) (row_C rfl (HS.mu 2 rfl) (HS.getN 0 rfl)) (row_le (HS.mu 2 rfl)) ha300) ?_
   clear ha300
   rintro _ w301 ⟨v302, bl303, rfl, hO_, hb⟩
   replace HS := HS.got hb hO_
   dsimp only [List.cons_append, List.nil_append] at HS
   clear hO_
   obtain ⟨I304, bl305, HS⟩ := HS.unseal (sz := 2) rfl
   exact by (
   replace HS := HS.freezeN 1 (p := (rF k62 t299.1 I304)) rfl (fun _ hP_ _ => RepsB.reps hP_)
   dsimp only [List.eraseIdx] at HS
   refine ⟨_, rfl, ?_⟩
   clear hb
   refine mv_ ?_
   refine v_ (Run.extract rfl rfl rfl) ?_
   refine v_ (Run.extract rfl rfl rfl) ?_
   refine as_ ?_
   exact by (
   refine ad_ hK298 ?_
   clear hK298
   refine WC.seq fun _ hK306 => ?_
   refine WC.drawS HS [] rfl rfl (fun w307 HS => ?_)
   have HB := Below.refl w307.heap.size w307
   have HSW := HS
   refine dm_ 1 ?_
   refine dm_ 2 ?_
   exact by (
   refine di_ 3 underlying59 2 q52 q53 ?_
   refine dt_ 0 (Below.refl _ _) (fun w_ hw_ => Run.loadS (cs := [(.slice A246 t226.1.f0.length c247), (.slice A248 t226.1.f1.length c249)]) rfl rfl underlying58 rfl (by kernel_rfl) (box_part ((HS.below hw_).mu 2 rfl) part_all)) ?_
   refine dt_ 4 (Below.refl _ _) (fun w_ hw_ => Run.loadS (cs := [.slice A214 ((t10.2.1.getD (Int.tmod (t40.getD (1 : Int).toNat 0) (t10.2.1.length : Int)).toNat o67).f0.length) c215, vi ((t10.2.1.getD (Int.tmod (t40.getD (1 : Int).toNat 0) (t10.2.1.length : Int)).toNat o67).f1)]) rfl rfl underlying67 rfl (by kernel_rfl) (cells_part ((HS.below hw_).getN 6 rfl).2 (part_cons hc216 (part_cons (at67_1 (AtK.whole ((HS.below hw_).getN 6 rfl).1)).int part_nil)))) ?_
   obtain ⟨t308, ha309, H⟩ := bind_some H
   refine dc_ 5 (w_none rfl) func49 (impl_CellsOf.runs k (⟨t226.1.f0, t226.1.f1⟩ : S58) A246 c247 A248 c249 (t10.2.1.getD (Int.tmod (t40.getD (1 : Int).toNat 0) (t10.2.1.length : Int)).toNat o67) A214 c215 t308.1 t308.2 _ (row_C rfl (HS.mu 5 rfl) (HS.getN 3 rfl)) (row_le (HS.mu 5 rfl)) (row_C rfl (HS.mu 4 rfl) (HS.getN 2 rfl)) (row_le (HS.mu 4 rfl)) (HS.getN 5 rfl) le217 ha309) ?_
   clear ha309
   rintro _ w310 ⟨v311, bl312, rfl, hO_, hb⟩
   replace HB := HB.trans (hb.mono HB.size)
   exact by (
   replace HS := HS.got hb hO_
   dsimp only [List.cons_append, List.nil_append] at HS
   clear hO_
   obtain ⟨I313, bl314, HS⟩ := HS.unseal (sz := 2) rfl
   replace HS := HS.freezeN 1 (p := (rF k62 t308.1 I313)) rfl (fun _ hP_ _ => RepsB.reps hP_)
   dsimp only [List.eraseIdx] at HS
   refine ⟨HB, _, rfl, ?_⟩
   clear hb
   exact by (
   refine dm_ 6 ?_
   refine dp_ 7 (fun _ => Run.extract rfl rfl rfl) ?_
   refine dp_ 8 (fun _ => Run.extract rfl rfl rfl) ?_
   refine dp_ 9 (fun _ => Run.assign rfl rfl) ?_
   refine dp_ 10 (fun _ => Run.assign rfl rfl) ?_
   refine dd_ ?_
   clear HB HSW
   refine via_ hK306 (WC.seq fun _ hK315 => ?_)
   exact by (
   clear hK306
   refine sr_ fun _ hK316 => ?_
   refine mv_ ?_
   refine nt_ ?_
   refine mv_ ?_
   rcases eti_ H with ⟨c317, H⟩ | ⟨c317, H⟩
   · refine off_ (c' := true) (nB (bF c317)) ?_
     refine WL.know 87 (nB (bF c317)) ?_
     exact by (
     refine fast_ ?_
     refine via_ hK316 (wy_ rfl ?_)
     clear hK316
     refine sr_ fun _ hK378 => ?_
     refine ad_ hK378 ?_
     clear hK378
     refine WC.ret ?_
     obtain rfl := os H
     exact by (
     rw [hG255] at Ho257
     replace H : some _ = some _ := Ho257
     obtain rfl := os H
     exact fin1 Try.f10 rfl rfl hR_ ⟨rfl, HS.b⟩ ))
   refine on_ (nB c317) (mv_ ?_)
   refine on_ (nB c317) (mv_ ?_)
   refine on_ (nB c317) ?_
   obtain ⟨A318, c319, rfl⟩ := row_slice (HS.mu 0 rfl)
   exact by (
   obtain ⟨t320, ha321, H⟩ := bind_some H
   refine cs_ HS func50 (laws_sameCells.runs k A318 c319 t308.1 A221 c222 t218.1 t320 _ (row_C rfl (HS.mu 0 rfl) (HS.getN 0 rfl)) (row_le (HS.mu 0 rfl)) (HS.getN 5 rfl) le223 ha321) (fun w322 HS => ?_)
   clear ha321
   refine on_ (nB c317) (nt_ ?_)
   refine v_ (Run.pickF rfl rfl (nB c317) rfl) ?_
   refine mv_ ?_
   rcases eti_ H with ⟨c323, H⟩ | ⟨c323, H⟩
   · refine off_ (c' := true) (nB (bF c323)) ?_
     exact by (
     refine WL.know 93 (nB (bF c323)) ?_
     refine fast_ ?_
     refine via_ hK316 (wy_ rfl ?_)
     clear hK316
     refine sr_ fun _ hK377 => ?_
     refine ad_ hK377 ?_
     clear hK377
     refine WC.ret ?_
     obtain rfl := os H
     exact by (
     rw [hG255] at Ho257
     replace H : some _ = some _ := Ho257
     obtain rfl := os H
     exact fin1 Try.f10 rfl rfl hR_ ⟨rfl, HS.b⟩ ))
   refine on_ (nB c323) (mv_ ?_)
   refine on_ (nB c323) ?_
   obtain ⟨A324, c325, rfl⟩ := row_slice (HS.mu 1 rfl)
   refine ln_ underlying71 ?_
   exact by (
   refine on_ (nB c323) (mv_ ?_)
   refine on_ (nB c323) (ln_ underlying71 ?_)
   refine on_ (nB c323) (b_ bin_add64 ?_)
   refine on_ (nB c323) (b_ bin_neq ?_)
   refine v_ (Run.pickF rfl rfl (nB c323) rfl) ?_
   refine dn_ hK316 ?_
   clear hK316
   rcases eti_ H with ⟨c326, H⟩ | ⟨c326, H⟩
   · refine wy_ (qT c326) (sr_ fun _ hK376 => ?_)
     exact by (
     refine ad_ hK376 ?_
     clear hK376
     refine WC.ret ?_
     obtain rfl := os H
     rw [hG255] at Ho257
     replace H : some _ = some _ := Ho257
     obtain rfl := os H
     exact fin1 Try.f10 rfl rfl hR_ ⟨rfl, HS.b⟩ )
   exact by (
   refine wn_ (qF c326) (WC.skip (via_ hK315 (sr_ fun _ hK327 => ?_)))
   clear hK315
   refine v_ (ls_ (HS.mu 3 rfl) underlying58 part_all) ?_
   refine v_ (ls_ (HS.mu 2 rfl) underlying67 part_all) ?_
   obtain ⟨t328, ha329, H⟩ := bind_some H
   refine c_ func55 (impl_DropTable.runs k (⟨t226.1.f0, t226.1.f1⟩ : S58) A246 c247 A248 c249 (⟨t226.2.1.f0, t226.2.1.f1⟩ : S67) A251 c252 t328.1 t328.2 _ (row_C rfl (HS.mu 6 rfl) (HS.getN 4 rfl)) (row_le (HS.mu 6 rfl)) (row_C rfl (HS.mu 5 rfl) (HS.getN 3 rfl)) (row_le (HS.mu 5 rfl)) (row_C rfl (HS.mu 4 rfl) (HS.getN 2 rfl)) (row_le (HS.mu 4 rfl)) ha329) ?_
   clear ha329
   rintro _ w330 ⟨v331, bl332, v333, bl334, rfl, hO_, hb⟩
   exact by (
   replace HS := HS.got hb hO_
   dsimp only [List.cons_append, List.nil_append] at HS
   clear hO_
   obtain ⟨I335, bl336, HS⟩ := HS.unseal (sz := 1) rfl
   replace HS := HS.freezeN 1 (p := (rF kI t328.1.f0 I335)) rfl (fun _ hP_ _ => RepsB.reps hP_)
   dsimp only [List.eraseIdx] at HS
   replace HS := HS.front 1 rfl
   dsimp only [List.eraseIdx] at HS
   exact by (
   obtain ⟨I337, bl338, HS⟩ := HS.unseal (sz := 1) rfl
   replace HS := HS.freezeN 1 (p := (rF kS62 t328.1.f1 I337)) rfl (fun _ hP_ _ => RepsB.reps hP_)
   dsimp only [List.eraseIdx] at HS
   refine ⟨_, rfl, ?_⟩
   clear hb
   refine mv_ ?_
   refine v_ (Run.extract rfl rfl rfl) ?_
   refine v_ (Run.extract rfl rfl rfl) ?_
   exact by (
   refine WL.alloc HS (v := .agg #[sn, sn]) (cs := #[sn, sn]) rfl rfl (by decide) rfl (by kernel_rfl) rfl (fun b339 w340 hb339 HS => ?_)
   obtain ⟨A342, c343, rfl⟩ := row_slice (HS.mu 2 rfl)
   obtain ⟨A344, c345, rfl⟩ := row_slice (HS.mu 1 rfl)
   refine WL.storeW HS 0 rfl rfl rfl rfl rfl rfl (oneL rfl) (by kernel_rfl) rfl (fun w341 HS => ?_)
   dsimp only [List.set] at HS
   refine ad_ hK327 ?_
   clear hK327
   refine WC.seq fun _ hK346 => ?_
   exact by (
   refine WC.drawS HS [] rfl rfl (fun w347 HS => ?_)
   have HB := Below.refl w347.heap.size w347
   have HSW := HS
   refine dm_ 1 ?_
   refine dm_ 2 ?_
   refine di_ 3 underlying59 2 q52 q53 ?_
   refine dt_ 0 (Below.refl _ _) (fun w_ hw_ => Run.loadS (cs := [(.slice A342 t328.1.f0.length c343), (.slice A344 t328.1.f1.length c345)]) rfl rfl underlying58 rfl (by kernel_rfl) (box_part ((HS.below hw_).mu 0 rfl) part_all)) ?_
   refine dt_ 4 (Below.refl _ _) (fun w_ hw_ => Run.loadS (cs := [.slice A214 ((t10.2.1.getD (Int.tmod (t40.getD (1 : Int).toNat 0) (t10.2.1.length : Int)).toNat o67).f0.length) c215, vi ((t10.2.1.getD (Int.tmod (t40.getD (1 : Int).toNat 0) (t10.2.1.length : Int)).toNat o67).f1)]) rfl rfl underlying67 rfl (by kernel_rfl) (cells_part ((HS.below hw_).getN 9 rfl).2 (part_cons hc216 (part_cons (at67_1 (AtK.whole ((HS.below hw_).getN 9 rfl).1)).int part_nil)))) ?_
   exact by (
   obtain ⟨t348, ha349, H⟩ := bind_some H
   refine dc_ 5 (w_none rfl) func49 (impl_CellsOf.runs k (⟨t328.1.f0, t328.1.f1⟩ : S58) A342 c343 A344 c345 (t10.2.1.getD (Int.tmod (t40.getD (1 : Int).toNat 0) (t10.2.1.length : Int)).toNat o67) A214 c215 t348.1 t348.2 _ (row_C rfl (HS.mu 2 rfl) (HS.getN 1 rfl)) (row_le (HS.mu 2 rfl)) (row_C rfl (HS.mu 1 rfl) (HS.getN 0 rfl)) (row_le (HS.mu 1 rfl)) (HS.getN 8 rfl) le217 ha349) ?_
   clear ha349
   rintro _ w350 ⟨v351, bl352, rfl, hO_, hb⟩
   replace HB := HB.trans (hb.mono HB.size)
   replace HS := HS.got hb hO_
   dsimp only [List.cons_append, List.nil_append] at HS
   clear hO_
   exact by (
   obtain ⟨I353, bl354, HS⟩ := HS.unseal (sz := 2) rfl
   replace HS := HS.freezeN 1 (p := (rF k62 t348.1 I353)) rfl (fun _ hP_ _ => RepsB.reps hP_)
   dsimp only [List.eraseIdx] at HS
   refine ⟨HB, _, rfl, ?_⟩
   clear hb
   refine dm_ 6 ?_
   refine dp_ 7 (fun _ => Run.extract rfl rfl rfl) ?_
   refine dp_ 8 (fun _ => Run.extract rfl rfl rfl) ?_
   exact by (
   refine dp_ 9 (fun _ => Run.assign rfl rfl) ?_
   refine dp_ 10 (fun _ => Run.assign rfl rfl) ?_
   refine dd_ ?_
   clear HB HSW
   refine via_ hK346 (WC.seq fun _ hK355 => ?_)
   clear hK346
   refine WC.drawS HS [] rfl rfl (fun w356 HS => ?_)
   have HB := Below.refl w356.heap.size w356
   exact by (
   have HSW := HS
   refine dm_ 0 ?_
   refine dp_ 1 (fun _ => Run.not rfl rfl) ?_
   refine dm_ 2 ?_
   rcases eti_ H with ⟨c357, H⟩ | ⟨c357, H⟩
   · refine doT_ 3 (nB (bF c357)) ?_
     refine doT_ 4 (nB (bF c357)) ?_
     refine dp_ 5 (fun _ => Run.pickT rfl rfl (nB (bF c357)) rfl) ?_
     exact by (
     refine dm_ 6 ?_
     refine doT_ 7 rfl ?_
     refine doT_ 8 rfl ?_
     refine doT_ 9 rfl ?_
     refine doT_ 10 rfl ?_
     refine dp_ 11 (fun _ => Run.pickT rfl rfl rfl rfl) ?_
     refine dm_ 12 ?_
     refine doT_ 13 rfl ?_
     exact by (
     refine doT_ 14 rfl ?_
     refine doT_ 15 rfl ?_
     refine doT_ 16 rfl ?_
     refine doT_ 17 rfl ?_
     refine doT_ 18 rfl ?_
     refine doT_ 19 rfl ?_
     refine dp_ 20 (fun _ => Run.pickT rfl rfl rfl rfl) ?_
     refine dd_ ?_
     exact by (
     clear HB HSW
     refine via_ hK355 (wy_ rfl ?_)
     clear hK355
     refine sr_ fun _ hK375 => ?_
     refine ad_ hK375 ?_
     clear hK375
     refine WC.ret ?_
     obtain rfl := os H
     exact by (
     rw [hG255] at Ho257
     replace H : some _ = some _ := Ho257
     obtain rfl := os H
     exact fin1 Try.f10 rfl rfl hR_ ⟨rfl, HS.b⟩ ))))
   refine dg_ 3 (nB c357) (fun _ => Run.move rfl rfl) ?_
   refine dg_ 4 (nB c357) (fun _ => Run.not rfl rfl) ?_
   refine dp_ 5 (fun _ => Run.pickF rfl rfl (nB c357) rfl) ?_
   refine dm_ 6 ?_
   exact by (
   rcases eti_ H with ⟨c358, H⟩ | ⟨c358, H⟩
   · refine doT_ 7 (nB (bF c358)) ?_
     refine doT_ 8 (nB (bF c358)) ?_
     refine doT_ 9 (nB (bF c358)) ?_
     refine doT_ 10 (nB (bF c358)) ?_
     refine dp_ 11 (fun _ => Run.pickT rfl rfl (nB (bF c358)) rfl) ?_
     refine dm_ 12 ?_
     refine doT_ 13 rfl ?_
     exact by (
     refine doT_ 14 rfl ?_
     refine doT_ 15 rfl ?_
     refine doT_ 16 rfl ?_
     refine doT_ 17 rfl ?_
     refine doT_ 18 rfl ?_
     refine doT_ 19 rfl ?_
     refine dp_ 20 (fun _ => Run.pickT rfl rfl rfl rfl) ?_
     refine dd_ ?_
     exact by (
     clear HB HSW
     refine via_ hK355 (wy_ rfl ?_)
     clear hK355
     refine sr_ fun _ hK374 => ?_
     refine ad_ hK374 ?_
     clear hK374
     refine WC.ret ?_
     obtain rfl := os H
     exact by (
     rw [hG255] at Ho257
     replace H : some _ = some _ := Ho257
     obtain rfl := os H
     exact fin1 Try.f10 rfl rfl hR_ ⟨rfl, HS.b⟩ )))
   refine dg_ 7 (nB c358) (fun _ => Run.move rfl rfl) ?_
   refine dg_ 8 (nB c358) (fun _ => Run.move rfl rfl) ?_
   obtain ⟨A359, c360, rfl⟩ := row_slice (HS.mu 0 rfl)
   obtain ⟨t361, ha362, H⟩ := bind_some H
   exact by (
   refine dcs_ HS HB 9 (w_on rfl rfl rfl (nB c358)) func50 (laws_sameCells.runs k A359 c360 t348.1 A221 c222 t218.1 t361 _ (row_C rfl (HS.mu 0 rfl) (HS.getN 0 rfl)) (row_le (HS.mu 0 rfl)) (HS.getN 8 rfl) le223 ha362) (fun w363 HS HB => ?_)
   clear ha362
   refine dg_ 10 (nB c358) (fun _ => Run.not rfl rfl) ?_
   refine dp_ 11 (fun _ => Run.pickF rfl rfl (nB c358) rfl) ?_
   refine dm_ 12 ?_
   rcases eti_ H with ⟨c364, H⟩ | ⟨c364, H⟩
   · refine doT_ 13 (nB (bF c364)) ?_
     refine doT_ 14 (nB (bF c364)) ?_
     exact by (
     refine doT_ 15 (nB (bF c364)) ?_
     refine doT_ 16 (nB (bF c364)) ?_
     refine doT_ 17 (nB (bF c364)) ?_
     refine doT_ 18 (nB (bF c364)) ?_
     refine doT_ 19 (nB (bF c364)) ?_
     refine dp_ 20 (fun _ => Run.pickT rfl rfl (nB (bF c364)) rfl) ?_
     refine dd_ ?_
     clear HB HSW
     exact by (
     refine via_ hK355 (wy_ rfl ?_)
     clear hK355
     refine sr_ fun _ hK373 => ?_
     refine ad_ hK373 ?_
     clear hK373
     refine WC.ret ?_
     obtain rfl := os H
     rw [hG255] at Ho257
     exact by (
     replace H : some _ = some _ := Ho257
     obtain rfl := os H
     exact fin1 Try.f10 rfl rfl hR_ ⟨rfl, HS.b⟩ )))
   refine dfg_ 13 (nB c364) underlying58 ?_
   refine dfg_ 16 (nB c364) underlying58 ?_
   refine blg_ 14 (nB c364) HSW HB 1 underlying22 rfl ?_
   refine blg_ 17 (nB c364) HSW HB 17 underlying22 rfl ?_
   obtain ⟨t365, ha366, H⟩ := bind_some H
   exact by (
   refine dcs_ HS HB 15 (w_on rfl rfl rfl (nB c364)) func56 (impl_FreePages.runs k A342 c343 t328.1.f0 t365 _ (row_C rfl (HS.mu 3 rfl) (HS.getN 2 rfl)) (row_le (HS.mu 3 rfl)) ha366) (fun w367 HS HB => ?_)
   clear ha366
   obtain ⟨t368, ha369, H⟩ := bind_some H
   refine dcs_ HS HB 18 (w_on rfl rfl rfl (nB c364)) func56 (impl_FreePages.runs k A13 c14 t10.1.f0 t368 _ (HS.getN 17 rfl) le15 ha369) (fun w370 HS HB => ?_)
   clear ha369
   refine dg_ 19 (nB c364) (fun _ => Run.bin rfl rfl rfl bin_neq) ?_
   refine dp_ 20 (fun _ => Run.pickF rfl rfl (nB c364) rfl) ?_
   refine dd_ ?_
   exact by (
   clear HB HSW
   refine via_ hK355 ?_
   clear hK355
   rcases ite_ H with ⟨c371, H⟩ | ⟨c371, H⟩
   · refine wn_ (qF c371) (WC.skip ?_)
     obtain rfl := os H
     exact wv_ iq X258 ⟨rfl, Ho257, (St.pk (St.forget (St.forget (St.forget (St.forget (St.forget (St.forget HS 5 rfl) 4 rfl) 3 rfl) 2 rfl) 1 rfl) 0 rfl) [0] [5, 6, 7, 9, 11, 12, 13, 17, 18, 19, 20, 21] rfl rfl)⟩
   refine wy_ (qT c371) (sr_ fun _ hK372 => ?_)
   exact by (
   refine ad_ hK372 ?_
   clear hK372
   refine WC.ret ?_
   obtain rfl := os H
   rw [hG255] at Ho257
   replace H : some _ = some _ := Ho257
   obtain rfl := os H
   exact fin1 Try.f10 rfl rfl hR_ ⟨rfl, HS.b⟩ )))))))))))))))))))))))))))))))))))
 exact by (
 refine three__ 5 10 11 ?_ ?_ ?_
 · have HT_ := True.intro
   obtain ⟨t63, ha64, H⟩ := bind_some H
   refine dco_ 5 (w_none rfl) func54 (impl_ForkTable.runs k (⟨t10.1.f0, t10.1.f1⟩ : S58) A13 c14 A17 c18 (t10.2.1.getD (Int.tmod (t40.getD (1 : Int).toNat 0) (t10.2.1.length : Int)).toNat o67) A58 c59 t63.1 t63.2.1 t63.2.2 _ (HS.getN 3 rfl) le15 (HS.getN 4 rfl) le19 (HS.getN 0 rfl) le61 ha64) ?_
   clear ha64
   rintro _ w65 ⟨v66, bl67, v68, bl69, v70, bl71, rfl, hO_, hb⟩
   replace HS := HS.got hb hO_
   dsimp only [List.cons_append, List.nil_append] at HS
   exact by (
   clear hO_
   obtain ⟨I72, bl73, HS⟩ := HS.unseal (sz := 1) rfl
   replace HS := HS.freezeN 1 (p := (rF kI t63.1.f0 I72)) rfl (fun _ hP_ _ => RepsB.reps hP_)
   dsimp only [List.eraseIdx] at HS
   replace HS := HS.front 1 rfl
   dsimp only [List.eraseIdx] at HS
   obtain ⟨I74, bl75, HS⟩ := HS.unseal (sz := 1) rfl
   replace HS := HS.freezeN 1 (p := (rF kS62 t63.1.f1 I74)) rfl (fun _ hP_ _ => RepsB.reps hP_)
   exact by (
   dsimp only [List.eraseIdx] at HS
   replace HS := HS.front 2 rfl
   dsimp only [List.eraseIdx] at HS
   obtain ⟨I76, bl77, HS⟩ := HS.unseal (sz := 1) rfl
   replace HS := HS.freezeN 1 (p := (rF kI t63.2.1.f0 I76)) rfl (fun _ hP_ _ => RepsB.reps hP_)
   dsimp only [List.eraseIdx] at HS
   refine ⟨⟨HS.nowO, HS.nowN.2.2.2.2, ⟨(HS.mu 3 rfl), (HS.mu 4 rfl), trivial⟩⟩, _, rfl, ?_⟩
   clear hb
   exact by (
   refine dm_ 6 ?_
   refine dp_ 7 (fun _ => Run.extract rfl rfl rfl) ?_
   refine dp_ 8 (fun _ => Run.extract rfl rfl rfl) ?_
   refine dp_ 9 (fun _ => Run.extract rfl rfl rfl) ?_
   refine two__ 10 11 ?_ ?_
   · have HT_ := True.intro
     refine WDo.alloc (v := .agg #[sn, sn]) (cs := #[sn, sn]) 10 (w_none rfl) HS rfl (by kernel_rfl) rfl (fun b78 w79 hb78 HS => ?_)
     refine ⟨⟨HS.nowO, HS.nowN.2.2.2.2, ⟨(HS.mu 4 rfl), (HS.mu 5 rfl), trivial⟩⟩, ?_⟩
     exact by (
     refine WD.alloc (v := .agg #[sn, vi 0]) (cs := #[sn, vi 0]) 11 (w_none rfl) HS rfl (by kernel_rfl) rfl (fun b80 w81 hb80 HS => ?_)
     refine ⟨⟨HS.nowO, HS.nowN.2.2.2.2, ⟨(HS.mu 5 rfl), (HS.mu 6 rfl), trivial⟩⟩, ?_⟩
     obtain ⟨A83, c84, rfl⟩ := row_slice (HS.mu 4 rfl)
     obtain ⟨A85, c86, rfl⟩ := row_slice (HS.mu 3 rfl)
     refine WD.storeS 12 HS 1 rfl rfl rfl rfl (oneL rfl) (by kernel_rfl) (ble_ rfl) (cs' := #[(.slice A83 t63.1.f0.length c84), (.slice A85 t63.1.f1.length c86)]) (by kernel_rfl) (fun w82 HS => ?_)
     dsimp only [List.set] at HS
     refine ⟨⟨HS.nowO, HS.nowN.2.2.2.2, ⟨(HS.mu 5 rfl), (HS.mu 6 rfl), trivial⟩⟩, ?_⟩
     obtain ⟨A88, c89, rfl⟩ := row_slice (HS.mu 2 rfl)
     exact by (
     refine WD.storeS 13 HS 0 rfl rfl rfl rfl (oneL rfl) (by kernel_rfl) (ble_ rfl) (cs' := #[(.slice A88 t63.2.1.f0.length c89), vi t63.2.1.f1]) (by kernel_rfl) (fun w87 HS => ?_)
     dsimp only [List.set] at HS
     refine ⟨⟨HS.nowO, HS.nowN.2.2.2.2, ⟨(HS.mu 5 rfl), (HS.mu 6 rfl), trivial⟩⟩, ?_⟩
     refine dp_ 14 (fun _ => Run.assign rfl rfl) ?_
     exact dd_ (wv_ iq X62 ⟨b78, b80, t63, A83, c84, A85, c86, A88, c89, I76, I74, I72, rfl, H, HS⟩) ))
   · have HT_ := True.intro
     refine WDo.alloc (v := .agg #[sn, vi 0]) (cs := #[sn, vi 0]) 11 (w_none rfl) HS rfl (by kernel_rfl) rfl (fun b90 w91 hb90 HS => ?_)
     refine ⟨⟨HS.nowO, HS.nowN.2.2.2.2, ⟨(HS.mu 4 rfl), (HS.mu 5 rfl), trivial⟩⟩, ?_⟩
     exact by (
     refine WD.alloc (v := .agg #[sn, sn]) (cs := #[sn, sn]) 10 (w_none rfl) HS rfl (by kernel_rfl) rfl (fun b92 w93 hb92 HS => ?_)
     refine ⟨⟨HS.nowO, HS.nowN.2.2.2.2, ⟨(HS.mu 5 rfl), (HS.mu 6 rfl), trivial⟩⟩, ?_⟩
     obtain ⟨A95, c96, rfl⟩ := row_slice (HS.mu 4 rfl)
     obtain ⟨A97, c98, rfl⟩ := row_slice (HS.mu 3 rfl)
     refine WD.storeS 12 HS 0 rfl rfl rfl rfl (oneL rfl) (by kernel_rfl) (ble_ rfl) (cs' := #[(.slice A95 t63.1.f0.length c96), (.slice A97 t63.1.f1.length c98)]) (by kernel_rfl) (fun w94 HS => ?_)
     dsimp only [List.set] at HS
     refine ⟨⟨HS.nowO, HS.nowN.2.2.2.2, ⟨(HS.mu 5 rfl), (HS.mu 6 rfl), trivial⟩⟩, ?_⟩
     obtain ⟨A100, c101, rfl⟩ := row_slice (HS.mu 2 rfl)
     exact by (
     refine WD.storeS 13 HS 1 rfl rfl rfl rfl (oneL rfl) (by kernel_rfl) (ble_ rfl) (cs' := #[(.slice A100 t63.2.1.f0.length c101), vi t63.2.1.f1]) (by kernel_rfl) (fun w99 HS => ?_)
     dsimp only [List.set] at HS
     refine ⟨⟨HS.nowO, HS.nowN.2.2.2.2, ⟨(HS.mu 5 rfl), (HS.mu 6 rfl), trivial⟩⟩, ?_⟩
     refine dp_ 14 (fun _ => Run.assign rfl rfl) ?_
     exact dd_ (wv_ iq X62 ⟨b92, b90, t63, A95, c96, A97, c98, A100, c101, I76, I74, I72, rfl, H, (St.front (St.front (St.front (St.front (St.front (St.front (St.front HS 6 rfl) 6 rfl) 6 rfl) 6 rfl) 6 rfl) 5 rfl) 6 rfl)⟩) )))))
 · have HT_ := True.intro
   refine WDo.alloc (v := .agg #[sn, sn]) (cs := #[sn, sn]) 10 (w_none rfl) HS rfl (by kernel_rfl) rfl (fun b102 w103 hb102 HS => ?_)
   refine ⟨⟨HS.nowO, HS.nowN.2, ⟨(HS.mu 1 rfl), (HS.mu 2 rfl), trivial⟩⟩, ?_⟩
   exact by (
   refine two__ 5 11 ?_ ?_
   · have HT_ := True.intro
     obtain ⟨t104, ha105, H⟩ := bind_some H
     refine dco_ 5 (w_none rfl) func54 (impl_ForkTable.runs k (⟨t10.1.f0, t10.1.f1⟩ : S58) A13 c14 A17 c18 (t10.2.1.getD (Int.tmod (t40.getD (1 : Int).toNat 0) (t10.2.1.length : Int)).toNat o67) A58 c59 t104.1 t104.2.1 t104.2.2 _ (HS.getN 3 rfl) le15 (HS.getN 4 rfl) le19 (HS.getN 0 rfl) le61 ha105) ?_
     clear ha105
     rintro _ w106 ⟨v107, bl108, v109, bl110, v111, bl112, rfl, hO_, hb⟩
     replace HS := HS.got hb hO_
     dsimp only [List.cons_append, List.nil_append] at HS
     exact by (
     clear hO_
     obtain ⟨I113, bl114, HS⟩ := HS.unseal (sz := 1) rfl
     replace HS := HS.freezeN 1 (p := (rF kI t104.1.f0 I113)) rfl (fun _ hP_ _ => RepsB.reps hP_)
     dsimp only [List.eraseIdx] at HS
     replace HS := HS.front 1 rfl
     dsimp only [List.eraseIdx] at HS
     obtain ⟨I115, bl116, HS⟩ := HS.unseal (sz := 1) rfl
     replace HS := HS.freezeN 1 (p := (rF kS62 t104.1.f1 I115)) rfl (fun _ hP_ _ => RepsB.reps hP_)
     exact by (
     dsimp only [List.eraseIdx] at HS
     replace HS := HS.front 2 rfl
     dsimp only [List.eraseIdx] at HS
     obtain ⟨I117, bl118, HS⟩ := HS.unseal (sz := 1) rfl
     replace HS := HS.freezeN 1 (p := (rF kI t104.2.1.f0 I117)) rfl (fun _ hP_ _ => RepsB.reps hP_)
     dsimp only [List.eraseIdx] at HS
     refine ⟨⟨HS.nowO, HS.nowN.2.2.2.2, ⟨(HS.mu 4 rfl), (HS.mu 5 rfl), trivial⟩⟩, _, rfl, ?_⟩
     clear hb
     exact by (
     refine dm_ 6 ?_
     refine dp_ 7 (fun _ => Run.extract rfl rfl rfl) ?_
     refine dp_ 8 (fun _ => Run.extract rfl rfl rfl) ?_
     refine dp_ 9 (fun _ => Run.extract rfl rfl rfl) ?_
     refine WD.alloc (v := .agg #[sn, vi 0]) (cs := #[sn, vi 0]) 11 (w_none rfl) HS rfl (by kernel_rfl) rfl (fun b119 w120 hb119 HS => ?_)
     refine ⟨⟨HS.nowO, HS.nowN.2.2.2.2, ⟨(HS.mu 5 rfl), (HS.mu 6 rfl), trivial⟩⟩, ?_⟩
     obtain ⟨A122, c123, rfl⟩ := row_slice (HS.mu 3 rfl)
     obtain ⟨A124, c125, rfl⟩ := row_slice (HS.mu 2 rfl)
     exact by (
     refine WD.storeS 12 HS 4 rfl rfl rfl rfl (oneL rfl) (by kernel_rfl) (ble_ rfl) (cs' := #[(.slice A122 t104.1.f0.length c123), (.slice A124 t104.1.f1.length c125)]) (by kernel_rfl) (fun w121 HS => ?_)
     dsimp only [List.set] at HS
     refine ⟨⟨HS.nowO, HS.nowN.2.2.2.2, ⟨(HS.mu 5 rfl), (HS.mu 6 rfl), trivial⟩⟩, ?_⟩
     obtain ⟨A127, c128, rfl⟩ := row_slice (HS.mu 1 rfl)
     refine WD.storeS 13 HS 0 rfl rfl rfl rfl (oneL rfl) (by kernel_rfl) (ble_ rfl) (cs' := #[(.slice A127 t104.2.1.f0.length c128), vi t104.2.1.f1]) (by kernel_rfl) (fun w126 HS => ?_)
     dsimp only [List.set] at HS
     refine ⟨⟨HS.nowO, HS.nowN.2.2.2.2, ⟨(HS.mu 5 rfl), (HS.mu 6 rfl), trivial⟩⟩, ?_⟩
     refine dp_ 14 (fun _ => Run.assign rfl rfl) ?_
     exact dd_ (wv_ iq X62 ⟨b102, b119, t104, A122, c123, A124, c125, A127, c128, I117, I115, I113, rfl, H, (St.front (St.front (St.front (St.front (St.front (St.front (St.front HS 6 rfl) 6 rfl) 5 rfl) 5 rfl) 5 rfl) 6 rfl) 6 rfl)⟩) ))))
   · have HT_ := True.intro
     exact by (
     refine WDo.alloc (v := .agg #[sn, vi 0]) (cs := #[sn, vi 0]) 11 (w_none rfl) HS rfl (by kernel_rfl) rfl (fun b129 w130 hb129 HS => ?_)
     refine ⟨⟨HS.nowO, HS.nowN.2, ⟨(HS.mu 2 rfl), (HS.mu 3 rfl), trivial⟩⟩, ?_⟩
     obtain ⟨t131, ha132, H⟩ := bind_some H
     refine dc_ 5 (w_none rfl) func54 (impl_ForkTable.runs k (⟨t10.1.f0, t10.1.f1⟩ : S58) A13 c14 A17 c18 (t10.2.1.getD (Int.tmod (t40.getD (1 : Int).toNat 0) (t10.2.1.length : Int)).toNat o67) A58 c59 t131.1 t131.2.1 t131.2.2 _ (HS.getN 3 rfl) le15 (HS.getN 4 rfl) le19 (HS.getN 0 rfl) le61 ha132) ?_
     clear ha132
     rintro _ w133 ⟨v134, bl135, v136, bl137, v138, bl139, rfl, hO_, hb⟩
     replace HS := HS.got hb hO_
     dsimp only [List.cons_append, List.nil_append] at HS
     exact by (
     clear hO_
     obtain ⟨I140, bl141, HS⟩ := HS.unseal (sz := 1) rfl
     replace HS := HS.freezeN 1 (p := (rF kI t131.1.f0 I140)) rfl (fun _ hP_ _ => RepsB.reps hP_)
     dsimp only [List.eraseIdx] at HS
     replace HS := HS.front 1 rfl
     dsimp only [List.eraseIdx] at HS
     obtain ⟨I142, bl143, HS⟩ := HS.unseal (sz := 1) rfl
     replace HS := HS.freezeN 1 (p := (rF kS62 t131.1.f1 I142)) rfl (fun _ hP_ _ => RepsB.reps hP_)
     exact by (
     dsimp only [List.eraseIdx] at HS
     replace HS := HS.front 2 rfl
     dsimp only [List.eraseIdx] at HS
     obtain ⟨I144, bl145, HS⟩ := HS.unseal (sz := 1) rfl
     replace HS := HS.freezeN 1 (p := (rF kI t131.2.1.f0 I144)) rfl (fun _ hP_ _ => RepsB.reps hP_)
     dsimp only [List.eraseIdx] at HS
     refine ⟨⟨HS.nowO, HS.nowN.2.2.2.2, ⟨(HS.mu 5 rfl), (HS.mu 6 rfl), trivial⟩⟩, _, rfl, ?_⟩
     clear hb
     exact by (
     refine dm_ 6 ?_
     refine dp_ 7 (fun _ => Run.extract rfl rfl rfl) ?_
     refine dp_ 8 (fun _ => Run.extract rfl rfl rfl) ?_
     refine dp_ 9 (fun _ => Run.extract rfl rfl rfl) ?_
     obtain ⟨A147, c148, rfl⟩ := row_slice (HS.mu 2 rfl)
     obtain ⟨A149, c150, rfl⟩ := row_slice (HS.mu 1 rfl)
     refine WD.storeS 12 HS 4 rfl rfl rfl rfl (oneL rfl) (by kernel_rfl) (ble_ rfl) (cs' := #[(.slice A147 t131.1.f0.length c148), (.slice A149 t131.1.f1.length c150)]) (by kernel_rfl) (fun w146 HS => ?_)
     dsimp only [List.set] at HS
     exact by (
     refine ⟨⟨HS.nowO, HS.nowN.2.2.2.2, ⟨(HS.mu 5 rfl), (HS.mu 6 rfl), trivial⟩⟩, ?_⟩
     obtain ⟨A152, c153, rfl⟩ := row_slice (HS.mu 0 rfl)
     refine WD.storeS 13 HS 3 rfl rfl rfl rfl (oneL rfl) (by kernel_rfl) (ble_ rfl) (cs' := #[(.slice A152 t131.2.1.f0.length c153), vi t131.2.1.f1]) (by kernel_rfl) (fun w151 HS => ?_)
     dsimp only [List.set] at HS
     refine ⟨⟨HS.nowO, HS.nowN.2.2.2.2, ⟨(HS.mu 5 rfl), (HS.mu 6 rfl), trivial⟩⟩, ?_⟩
     refine dp_ 14 (fun _ => Run.assign rfl rfl) ?_
     exact dd_ (wv_ iq X62 ⟨b102, b129, t131, A147, c148, A149, c150, A152, c153, I144, I142, I140, rfl, H, (St.front (St.front (St.front (St.front (St.front (St.front (St.front HS 6 rfl) 6 rfl) 4 rfl) 4 rfl) 4 rfl) 6 rfl) 6 rfl)⟩) ))))))
 · have HT_ := True.intro
   exact by (
   refine WDo.alloc (v := .agg #[sn, vi 0]) (cs := #[sn, vi 0]) 11 (w_none rfl) HS rfl (by kernel_rfl) rfl (fun b154 w155 hb154 HS => ?_)
   refine ⟨⟨HS.nowO, HS.nowN.2, ⟨(HS.mu 1 rfl), (HS.mu 2 rfl), trivial⟩⟩, ?_⟩
   refine two__ 5 10 ?_ ?_
   · have HT_ := True.intro
     obtain ⟨t156, ha157, H⟩ := bind_some H
     refine dco_ 5 (w_none rfl) func54 (impl_ForkTable.runs k (⟨t10.1.f0, t10.1.f1⟩ : S58) A13 c14 A17 c18 (t10.2.1.getD (Int.tmod (t40.getD (1 : Int).toNat 0) (t10.2.1.length : Int)).toNat o67) A58 c59 t156.1 t156.2.1 t156.2.2 _ (HS.getN 3 rfl) le15 (HS.getN 4 rfl) le19 (HS.getN 0 rfl) le61 ha157) ?_
     clear ha157
     rintro _ w158 ⟨v159, bl160, v161, bl162, v163, bl164, rfl, hO_, hb⟩
     exact by (
     replace HS := HS.got hb hO_
     dsimp only [List.cons_append, List.nil_append] at HS
     clear hO_
     obtain ⟨I165, bl166, HS⟩ := HS.unseal (sz := 1) rfl
     replace HS := HS.freezeN 1 (p := (rF kI t156.1.f0 I165)) rfl (fun _ hP_ _ => RepsB.reps hP_)
     dsimp only [List.eraseIdx] at HS
     replace HS := HS.front 1 rfl
     dsimp only [List.eraseIdx] at HS
     exact by (
     obtain ⟨I167, bl168, HS⟩ := HS.unseal (sz := 1) rfl
     replace HS := HS.freezeN 1 (p := (rF kS62 t156.1.f1 I167)) rfl (fun _ hP_ _ => RepsB.reps hP_)
     dsimp only [List.eraseIdx] at HS
     replace HS := HS.front 2 rfl
     dsimp only [List.eraseIdx] at HS
     obtain ⟨I169, bl170, HS⟩ := HS.unseal (sz := 1) rfl
     replace HS := HS.freezeN 1 (p := (rF kI t156.2.1.f0 I169)) rfl (fun _ hP_ _ => RepsB.reps hP_)
     dsimp only [List.eraseIdx] at HS
     exact by (
     refine ⟨⟨HS.nowO, HS.nowN.2.2.2.2, ⟨(HS.mu 4 rfl), (HS.mu 5 rfl), trivial⟩⟩, _, rfl, ?_⟩
     clear hb
     refine dm_ 6 ?_
     refine dp_ 7 (fun _ => Run.extract rfl rfl rfl) ?_
     refine dp_ 8 (fun _ => Run.extract rfl rfl rfl) ?_
     refine dp_ 9 (fun _ => Run.extract rfl rfl rfl) ?_
     refine WD.alloc (v := .agg #[sn, sn]) (cs := #[sn, sn]) 10 (w_none rfl) HS rfl (by kernel_rfl) rfl (fun b171 w172 hb171 HS => ?_)
     refine ⟨⟨HS.nowO, HS.nowN.2.2.2.2, ⟨(HS.mu 5 rfl), (HS.mu 6 rfl), trivial⟩⟩, ?_⟩
     exact by (
     obtain ⟨A174, c175, rfl⟩ := row_slice (HS.mu 3 rfl)
     obtain ⟨A176, c177, rfl⟩ := row_slice (HS.mu 2 rfl)
     refine WD.storeS 12 HS 0 rfl rfl rfl rfl (oneL rfl) (by kernel_rfl) (ble_ rfl) (cs' := #[(.slice A174 t156.1.f0.length c175), (.slice A176 t156.1.f1.length c177)]) (by kernel_rfl) (fun w173 HS => ?_)
     dsimp only [List.set] at HS
     refine ⟨⟨HS.nowO, HS.nowN.2.2.2.2, ⟨(HS.mu 5 rfl), (HS.mu 6 rfl), trivial⟩⟩, ?_⟩
     obtain ⟨A179, c180, rfl⟩ := row_slice (HS.mu 1 rfl)
     refine WD.storeS 13 HS 4 rfl rfl rfl rfl (oneL rfl) (by kernel_rfl) (ble_ rfl) (cs' := #[(.slice A179 t156.2.1.f0.length c180), vi t156.2.1.f1]) (by kernel_rfl) (fun w178 HS => ?_)
     dsimp only [List.set] at HS
     exact by (
     refine ⟨⟨HS.nowO, HS.nowN.2.2.2.2, ⟨(HS.mu 5 rfl), (HS.mu 6 rfl), trivial⟩⟩, ?_⟩
     refine dp_ 14 (fun _ => Run.assign rfl rfl) ?_
     exact dd_ (wv_ iq X62 ⟨b171, b154, t156, A174, c175, A176, c177, A179, c180, I169, I167, I165, rfl, H, (St.front (St.front (St.front (St.front (St.front (St.front (St.front HS 6 rfl) 6 rfl) 5 rfl) 5 rfl) 5 rfl) 5 rfl) 6 rfl)⟩) )))))
   · have HT_ := True.intro
     refine WDo.alloc (v := .agg #[sn, sn]) (cs := #[sn, sn]) 10 (w_none rfl) HS rfl (by kernel_rfl) rfl (fun b181 w182 hb181 HS => ?_)
     refine ⟨⟨HS.nowO, HS.nowN.2, ⟨(HS.mu 2 rfl), (HS.mu 3 rfl), trivial⟩⟩, ?_⟩
     obtain ⟨t183, ha184, H⟩ := bind_some H
     refine dc_ 5 (w_none rfl) func54 (impl_ForkTable.runs k (⟨t10.1.f0, t10.1.f1⟩ : S58) A13 c14 A17 c18 (t10.2.1.getD (Int.tmod (t40.getD (1 : Int).toNat 0) (t10.2.1.length : Int)).toNat o67) A58 c59 t183.1 t183.2.1 t183.2.2 _ (HS.getN 3 rfl) le15 (HS.getN 4 rfl) le19 (HS.getN 0 rfl) le61 ha184) ?_
     exact by (
     clear ha184
     rintro _ w185 ⟨v186, bl187, v188, bl189, v190, bl191, rfl, hO_, hb⟩
     replace HS := HS.got hb hO_
     dsimp only [List.cons_append, List.nil_append] at HS
     clear hO_
     obtain ⟨I192, bl193, HS⟩ := HS.unseal (sz := 1) rfl
     replace HS := HS.freezeN 1 (p := (rF kI t183.1.f0 I192)) rfl (fun _ hP_ _ => RepsB.reps hP_)
     dsimp only [List.eraseIdx] at HS
     exact by (
     replace HS := HS.front 1 rfl
     dsimp only [List.eraseIdx] at HS
     obtain ⟨I194, bl195, HS⟩ := HS.unseal (sz := 1) rfl
     replace HS := HS.freezeN 1 (p := (rF kS62 t183.1.f1 I194)) rfl (fun _ hP_ _ => RepsB.reps hP_)
     dsimp only [List.eraseIdx] at HS
     replace HS := HS.front 2 rfl
     dsimp only [List.eraseIdx] at HS
     obtain ⟨I196, bl197, HS⟩ := HS.unseal (sz := 1) rfl
     exact by (
     replace HS := HS.freezeN 1 (p := (rF kI t183.2.1.f0 I196)) rfl (fun _ hP_ _ => RepsB.reps hP_)
     dsimp only [List.eraseIdx] at HS
     refine ⟨⟨HS.nowO, HS.nowN.2.2.2.2, ⟨(HS.mu 5 rfl), (HS.mu 6 rfl), trivial⟩⟩, _, rfl, ?_⟩
     clear hb
     refine dm_ 6 ?_
     refine dp_ 7 (fun _ => Run.extract rfl rfl rfl) ?_
     refine dp_ 8 (fun _ => Run.extract rfl rfl rfl) ?_
     refine dp_ 9 (fun _ => Run.extract rfl rfl rfl) ?_
     exact by (
     obtain ⟨A199, c200, rfl⟩ := row_slice (HS.mu 2 rfl)
     obtain ⟨A201, c202, rfl⟩ := row_slice (HS.mu 1 rfl)
     refine WD.storeS 12 HS 3 rfl rfl rfl rfl (oneL rfl) (by kernel_rfl) (ble_ rfl) (cs' := #[(.slice A199 t183.1.f0.length c200), (.slice A201 t183.1.f1.length c202)]) (by kernel_rfl) (fun w198 HS => ?_)
     dsimp only [List.set] at HS
     refine ⟨⟨HS.nowO, HS.nowN.2.2.2.2, ⟨(HS.mu 5 rfl), (HS.mu 6 rfl), trivial⟩⟩, ?_⟩
     obtain ⟨A204, c205, rfl⟩ := row_slice (HS.mu 0 rfl)
     refine WD.storeS 13 HS 4 rfl rfl rfl rfl (oneL rfl) (by kernel_rfl) (ble_ rfl) (cs' := #[(.slice A204 t183.2.1.f0.length c205), vi t183.2.1.f1]) (by kernel_rfl) (fun w203 HS => ?_)
     dsimp only [List.set] at HS
     exact by (
     refine ⟨⟨HS.nowO, HS.nowN.2.2.2.2, ⟨(HS.mu 5 rfl), (HS.mu 6 rfl), trivial⟩⟩, ?_⟩
     refine dp_ 14 (fun _ => Run.assign rfl rfl) ?_
     exact dd_ (wv_ iq X62 ⟨b181, b154, t183, A199, c200, A201, c202, A204, c205, I196, I194, I192, rfl, H, (St.front (St.front (St.front (St.front (St.front (St.front (St.front HS 6 rfl) 6 rfl) 4 rfl) 4 rfl) 4 rfl) 5 rfl) 6 rfl)⟩) )))))))))))))))
def okT5 (x : Int) : Prop := (Lit.int .u8 x).wf = true
theorem opensT5 : XOpen.Opens prog 5 kU okT5 := XOpen.opens_int underlying5
def okT48 (xs : List Int) : Prop := xs.length ≤ 9223372036854775807 ∧ ∀ x ∈ xs, okT5 x
theorem opensT48 : XOpen.Opens prog 48 kS5 okT48 := XOpen.opens_slice underlying48 (by kernel_rfl) opensT5
def laws_FnForkTables.Pure : Prop := ∀ (l0 : List Int), okT48 l0 → ∃ k, laws_FnForkTables.g k l0 = some true
end Go.Proofs.Ytlpginalgdbopaa.PFnForkTables
