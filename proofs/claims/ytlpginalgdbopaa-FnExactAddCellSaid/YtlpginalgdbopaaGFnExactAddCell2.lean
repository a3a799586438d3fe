/- Functions that the statement reaches, as Lean functions, and the proof that a call of each comes to just its answer; written by this claim's own program. No conditions. -/
import Derived.Test.YtlpginalgdbopaaGFnExactAddCell1
namespace Go.Proofs.Ytlpginalgdbopaa.PFnExactAddCell
open Try
open Go.RowKit Go.Proofs.YtlpginalgdbopaaW.PrintWords Go.Proofs.YtlpginalgdbopaaW.PrintLast Go.Proofs.YtlpginalgdbopaaW.PrintMore Go.Proofs.Ytlpginalgdbopaa.XW Go.Proofs.Ytlpginalgdbopaa.XOp Go.Proofs.Ytlpginalgdbopaa.XSt Go.Proofs.Ytlpginalgdbopaa.XDraw
set_option linter.unusedVariables false
set_option linter.unusedSimpArgs false
set_option maxHeartbeats 4000000
set_option maxRecDepth 20000
def spec_l13Change.g (k : Nat) (l0 : List Int) (a1 : Int) (a2 : Int) : Option ((List Int) × Bool) := ((spec_PoolOk.g k l0).bind fun t4 => (if t4 = true then ((spec_l01In.f a1 0 (wrap64 ((l0.length : Int) - 1))).bind fun t8 => (if t8 = true then (if 0 ≤ a1 ∧ a1 < (l0.length : Int) then (if (l0.getD a1.toNat 0) = 0 then (some (([] : List Int), false)) else (if (0) + (l0.length) < 4294967296 then (if 0 ≤ a1 ∧ a1 < ((((([] : List Int) ++ l0).length) : Nat) : Int) then ((spec_PoolOk.g k ((([] : List Int) ++ l0).set a1.toNat (wrap64 (((([] : List Int) ++ l0).getD a1.toNat 0) + a2)))).bind fun t49 => (if t49 = true then (some (((([] : List Int) ++ l0).set a1.toNat (wrap64 (((([] : List Int) ++ l0).getD a1.toNat 0) + a2))), true)) else (some (([] : List Int), false)))) else none) else none)) else none) else (some (([] : List Int), false)))) else (some (([] : List Int), false))))
theorem spec_l13Change.runs (k : Nat) (A0 : Option Addr) (c0 : Nat) (l0 : List Int) (a1 : Int) (a2 : Int) (r1 : List Int) (r2 : Bool) (w : World) (hr0 : kI.C w A0 l0.length l0) (hc0 : l0.length ≤ c0) (H : spec_l13Change.g k l0 a1 a2 = some (r1, r2)) :
   Calls prog 147 #[.slice A0 l0.length c0, vi a1, vi a2] w fun e w' => ∃ (v0_ : Value) (bl0_ : List Nat), e = .returned (.tuple #[v0_, .bool r2]) ∧ Owns w' w.heap.size [valM (Dk.slice 3 (Dk.int .i64)) r1 [v0_] bl0_] ∧ Below w.heap.size w w' := by
 unfold spec_l13Change.g at H
 have HS : St (fun _ => True) w w [] [(cF kI A0 l0)] [] := St.start (foot_cons (foot_C (Kd.heap_int _) hr0) foot_nil)
 refine cw_ (n := 45) func147 fun R_ hR_ => ?_
 refine sr_ fun _ hK1 => ?_
 refine as_ ?_
 refine ad_ hK1 ?_
 refine WC.seq fun _ hK2 => ?_
 refine sr_ fun _ hK3 => ?_
 refine mv_ ?_
 obtain ⟨t4, ha5, H⟩ := bind_some H
 refine cs_ HS func146 (spec_PoolOk.runs k A0 c0 l0 t4 _ (HS.getO 0 rfl) hc0 ha5) (fun w6 HS => ?_)
 clear ha5
 refine nt_ ?_
 refine mv_ ?_
 rcases eti_ H with ⟨c7, H⟩ | ⟨c7, H⟩
 · refine off_ (c' := true) (nB (bF c7)) ?_
   refine WL.know 12 (nB (bF c7)) ?_
   refine fast_ ?_
   refine via_ hK3 (wy_ rfl ?_)
   refine sr_ fun _ hK64 => ?_
   refine WL.lit0 HS rfl rfl (by decide) rfl underlying22 (sz := 1) (by kernel_rfl) (fun v65 w66 HS => ?_)
   replace HS := HS.deriveN (p := (rF kI ([] : List Int) [])) (fun _ _ => Reps.none _ _)
   refine as_ ?_
   refine ad_ hK64 ?_
   refine WC.ret ?_
   obtain ⟨A67, c68, rfl⟩ := row_slice (HS.mu 0 rfl)
   replace HS := HS.elsF (xs := ([] : List Int)) (inner := []) (Dk.int .i64) (fun _ _ _ h_ => ⟨h_, rfl⟩) (fun _ => (HS.getN 0 rfl))
   replace HS := HS.front 1 rfl
   dsimp only [List.eraseIdx] at HS
   replace HS := HS.seal rfl (by simp)
   obtain ⟨rfl, rfl⟩ := Prod.mk.inj (os H)
   exact fin2 Try.f147 rfl rfl rfl hR_ ⟨_, _, rfl, (St.owns HS), HS.b⟩
 refine on_ (nB c7) (mv_ ?_)
 refine on_ (nB c7) (mv_ ?_)
 refine on_ (nB c7) (ln_ underlying22 ?_)
 refine on_ (nB c7) (b_ bin_sub64 ?_)
 refine on_ (nB c7) ?_
 obtain ⟨t8, ha9, H⟩ := bind_some H
 refine cs0_ HS func79 (spec_l01In.calls a1 0 (wrap64 ((l0.length : Int) - 1)) t8 _ ha9) (fun w10 HS => ?_)
 clear ha9
 refine on_ (nB c7) (nt_ ?_)
 refine v_ (Run.pickF rfl rfl (nB c7) rfl) ?_
 refine mv_ ?_
 rcases eti_ H with ⟨c11, H⟩ | ⟨c11, H⟩
 · refine off_ (c' := true) (nB (bF c11)) ?_
   refine WL.know 20 (nB (bF c11)) ?_
   refine fast_ ?_
   refine via_ hK3 (wy_ rfl ?_)
   refine sr_ fun _ hK59 => ?_
   refine WL.lit0 HS rfl rfl (by decide) rfl underlying22 (sz := 1) (by kernel_rfl) (fun v60 w61 HS => ?_)
   replace HS := HS.deriveN (p := (rF kI ([] : List Int) [])) (fun _ _ => Reps.none _ _)
   refine as_ ?_
   refine ad_ hK59 ?_
   refine WC.ret ?_
   obtain ⟨A62, c63, rfl⟩ := row_slice (HS.mu 0 rfl)
   replace HS := HS.elsF (xs := ([] : List Int)) (inner := []) (Dk.int .i64) (fun _ _ _ h_ => ⟨h_, rfl⟩) (fun _ => (HS.getN 0 rfl))
   replace HS := HS.front 1 rfl
   dsimp only [List.eraseIdx] at HS
   replace HS := HS.seal rfl (by simp)
   obtain ⟨rfl, rfl⟩ := Prod.mk.inj (os H)
   exact fin2 Try.f147 rfl rfl rfl hR_ ⟨_, _, rfl, (St.owns HS), HS.b⟩
 refine on_ (nB c11) (mv_ ?_)
 refine on_ (nB c11) (mv_ ?_)
 refine on_ (nB c11) ?_
 obtain ⟨⟨q12, q13⟩, H⟩ := if_some H
 obtain ⟨ad14, rfl⟩ := C_open (HS.getO 0 rfl) (by omega)
 refine v_ (ia_ underlying22 1 q12 q13) ?_
 refine on_ (nB c11) (v_ (Run.load rfl rfl underlying3 rfl (int_cell (HS.getO 0 rfl) a1 q12 q13)) ?_)
 refine on_ (nB c11) (b_ bin_eql ?_)
 refine v_ (Run.pickF rfl rfl (nB c11) rfl) ?_
 refine dn_ hK3 ?_
 rcases ite_ H with ⟨c15, H⟩ | ⟨c15, H⟩
 · refine wy_ (eT c15) (sr_ fun _ hK16 => ?_)
   refine WL.lit0 HS rfl rfl (by decide) rfl underlying22 (sz := 1) (by kernel_rfl) (fun v17 w18 HS => ?_)
   replace HS := HS.deriveN (p := (rF kI ([] : List Int) [])) (fun _ _ => Reps.none _ _)
   refine as_ ?_
   refine ad_ hK16 ?_
   refine WC.ret ?_
   obtain ⟨A19, c20, rfl⟩ := row_slice (HS.mu 0 rfl)
   replace HS := HS.elsF (xs := ([] : List Int)) (inner := []) (Dk.int .i64) (fun _ _ _ h_ => ⟨h_, rfl⟩) (fun _ => (HS.getN 0 rfl))
   replace HS := HS.front 1 rfl
   dsimp only [List.eraseIdx] at HS
   replace HS := HS.seal rfl (by simp)
   obtain ⟨rfl, rfl⟩ := Prod.mk.inj (os H)
   exact fin2 Try.f147 rfl rfl rfl hR_ ⟨_, _, rfl, (St.owns HS), HS.b⟩
 refine wn_ (eF c15) (WC.skip (via_ hK2 (sr_ fun _ hK21 => ?_)))
 refine WL.lit0 HS rfl rfl (by decide) rfl underlying22 (sz := 1) (by kernel_rfl) (fun v22 w23 HS => ?_)
 replace HS := HS.deriveN (p := (rF kI ([] : List Int) [])) (fun _ _ => Reps.none _ _)
 refine mv_ ?_
 obtain ⟨q24, H⟩ := if_some H
 obtain ⟨L25, hl26, h27, hF28, hc29⟩ := foot_all (HS.footO 0 rfl) (by decide) rfl
 replace HS := HS.addN (p := (rF kI l0 L25)) (fun W_ _ => hF28.now)
 refine WL.appendL HS 0 rfl rfl rfl (by decide) rfl (vi 0) 8 underlying22 (by kernel_rfl) rfl (by decide) (by decide) rfl rfl L25 hl26 hc29 h27 (by omega) ((([] : List Int) ++ l0).length) (by simp <;> omega) (fun v30 w31 I32 hI33 HS => ?_)
 dsimp only [List.set] at HS
 replace HS := HS.deriveN (p := (rF kI (([] : List Int) ++ l0) I32)) (fun W_ hN_ => reps_more hI33 hN_.2.1 hN_.1)
 refine ad_ hK21 ?_
 refine sr_ fun _ hK34 => ?_
 refine mv_ ?_
 refine mv_ ?_
 refine mv_ ?_
 refine mv_ ?_
 obtain ⟨⟨q35, q36⟩, H⟩ := if_some H
 obtain ⟨A37, c38, rfl⟩ := row_slice (HS.mu 0 rfl)
 obtain ⟨ad39, rfl⟩ := row_open (HS.mu 0 rfl) (by omega)
 refine v_ (ia_ underlying22 1 q35 q36) ?_
 refine v_ (Run.load rfl rfl underlying3 rfl (row_int (HS.mu 0 rfl) (HS.getN 0 rfl) q35 q36)) ?_
 refine mv_ ?_
 refine b_ bin_add64 ?_
 refine v_ (ia_ underlying22 1 q35 q36) ?_
 have hk_ := mul_room q35 q36 1
 refine WL.putEl HS 0 rfl rfl rfl rfl rfl rfl [vi (wrap64 (((([] : List Int) ++ l0).getD a1.toNat 0) + a2))] rfl (oneL rfl) (by kernel_rfl) (by first | omega | (rw [List.length_nil]; omega) | (simp; omega)) (fun w40 I41 hI42 HS => ?_)
 dsimp only [List.set] at HS
 clear hk_
 replace HS := HS.deriveN (p := (rF kI ((([] : List Int) ++ l0).set a1.toNat (wrap64 (((([] : List Int) ++ l0).getD a1.toNat 0) + a2))) I41)) (fun W_ hN_ => reps_set hI42 hN_.1 (K_int _) (toNat_lt q35 q36))
 replace HS := HS.rowN 0 rfl (show ((([] : List Int) ++ l0).length) = ((([] : List Int) ++ l0).set a1.toNat (wrap64 (((([] : List Int) ++ l0).getD a1.toNat 0) + a2))).length from (List.length_set ..).symm)
 dsimp only [List.set] at HS
 generalize hv44 : (Value.slice (some ad39) ((([] : List Int) ++ l0).length) c38) = v43 at HS ⊢
 refine dn_ hK34 (WC.seq fun _ hK45 => ?_)
 refine sr_ fun _ hK46 => ?_
 refine mv_ ?_
 obtain ⟨A47, c48, rfl⟩ := row_slice (HS.mu 0 rfl)
 obtain ⟨t49, ha50, H⟩ := bind_some H
 refine cs_ HS func146 (spec_PoolOk.runs k A47 c48 ((([] : List Int) ++ l0).set a1.toNat (wrap64 (((([] : List Int) ++ l0).getD a1.toNat 0) + a2))) t49 _ (row_C rfl (HS.mu 0 rfl) (HS.getN 0 rfl)) (row_le (HS.mu 0 rfl)) ha50) (fun w51 HS => ?_)
 clear ha50
 refine nt_ ?_
 refine dn_ hK46 ?_
 rcases ite_ H with ⟨c52, H⟩ | ⟨c52, H⟩
 · refine wn_ (nB c52) (WC.skip (via_ hK45 (sr_ fun _ hK53 => ?_)))
   refine fast_ ?_
   refine via_ hK53 (WC.ret ?_)
   replace HS := HS.elsF (xs := ((([] : List Int) ++ l0).set a1.toNat (wrap64 (((([] : List Int) ++ l0).getD a1.toNat 0) + a2)))) (inner := I41) (Dk.int .i64) (fun _ _ _ h_ => ⟨h_, rfl⟩) (fun _ => (HS.getN 0 rfl))
   replace HS := HS.front 1 rfl
   dsimp only [List.eraseIdx] at HS
   replace HS := HS.seal rfl rfl
   obtain ⟨rfl, rfl⟩ := Prod.mk.inj (os H)
   exact fin2 Try.f147 rfl rfl rfl hR_ ⟨_, _, rfl, (St.owns HS), HS.b⟩
 refine wy_ (nB (bF c52)) (sr_ fun _ hK54 => ?_)
 refine WL.lit0 HS rfl rfl (by decide) rfl underlying22 (sz := 1) (by kernel_rfl) (fun v55 w56 HS => ?_)
 replace HS := HS.deriveN (p := (rF kI ([] : List Int) [])) (fun _ _ => Reps.none _ _)
 refine as_ ?_
 refine ad_ hK54 ?_
 refine WC.ret ?_
 obtain ⟨A57, c58, rfl⟩ := row_slice (HS.mu 0 rfl)
 replace HS := HS.elsF (xs := ([] : List Int)) (inner := []) (Dk.int .i64) (fun _ _ _ h_ => ⟨h_, rfl⟩) (fun _ => (HS.getN 0 rfl))
 replace HS := HS.front 1 rfl
 dsimp only [List.eraseIdx] at HS
 replace HS := HS.seal rfl (by simp)
 obtain ⟨rfl, rfl⟩ := Prod.mk.inj (os H)
 exact fin2 Try.f147 rfl rfl rfl hR_ ⟨_, _, rfl, (St.owns (St.forget HS 1 rfl)), HS.b⟩
def spec_DropPage.g (k : Nat) (l0 : List Int) (a1 : Int) : Option ((List Int) × Bool) := ((spec_l13Change.g k l0 a1 (-1)).bind fun t3 => (some (t3.1, t3.2)))
theorem spec_DropPage.runs (k : Nat) (A0 : Option Addr) (c0 : Nat) (l0 : List Int) (a1 : Int) (r1 : List Int) (r2 : Bool) (w : World) (hr0 : kI.C w A0 l0.length l0) (hc0 : l0.length ≤ c0) (H : spec_DropPage.g k l0 a1 = some (r1, r2)) :
   Calls prog 116 #[.slice A0 l0.length c0, vi a1] w fun e w' => ∃ (v0_ : Value) (bl0_ : List Nat), e = .returned (.tuple #[v0_, .bool r2]) ∧ Owns w' w.heap.size [valM (Dk.slice 3 (Dk.int .i64)) r1 [v0_] bl0_] ∧ Below w.heap.size w w' := by
 unfold spec_DropPage.g at H
 have HS : St (fun _ => True) w w [] [(cF kI A0 l0)] [] := St.start (foot_cons (foot_C (Kd.heap_int _) hr0) foot_nil)
 refine cw_ (n := 11) func116 fun R_ hR_ => ?_
 refine sr_ fun _ hK1 => ?_
 refine as_ ?_
 refine ad_ hK1 ?_
 refine sr_ fun _ hK2 => ?_
 refine mv_ ?_
 refine mv_ ?_
 obtain ⟨t3, ha4, H⟩ := bind_some H
 refine c_ func147 (spec_l13Change.runs k A0 c0 l0 a1 (-1) t3.1 t3.2 _ (HS.getO 0 rfl) hc0 ha4) ?_
 clear ha4
 rintro _ w5 ⟨v6, bl7, rfl, hO_, hb⟩
 replace HS := HS.got hb hO_
 dsimp only [List.cons_append, List.nil_append] at HS
 clear hO_
 obtain ⟨I8, bl9, HS⟩ := HS.unseal (sz := 1) rfl
 replace HS := HS.freezeN 1 (p := (rF kI t3.1 I8)) rfl (fun _ hP_ _ => RepsB.reps hP_)
 dsimp only [List.eraseIdx] at HS
 refine ⟨_, rfl, ?_⟩
 clear hb
 refine v_ (Run.extract rfl rfl rfl) ?_
 refine v_ (Run.extract rfl rfl rfl) ?_
 refine as_ ?_
 refine ad_ hK2 ?_
 refine WC.ret ?_
 obtain ⟨A10, c11, rfl⟩ := row_slice (HS.mu 0 rfl)
 replace HS := HS.elsF (xs := t3.1) (inner := I8) (Dk.int .i64) (fun _ _ _ h_ => ⟨h_, rfl⟩) (fun _ => (HS.getN 0 rfl))
 replace HS := HS.front 1 rfl
 dsimp only [List.eraseIdx] at HS
 replace HS := HS.seal rfl rfl
 obtain ⟨rfl, rfl⟩ := Prod.mk.inj (os H)
 exact fin2 Try.f116 rfl rfl rfl hR_ ⟨_, _, rfl, (St.owns HS), HS.b⟩
def spec_AddCell.g (k : Nat) (x0 : S58) (x1 : S67) (x2 : S62) : Option (S58 × S67 × Bool) := ((spec_TableOk.g k (⟨x0.f0, x0.f1⟩ : S58) (⟨x1.f0, x1.f1⟩ : S67)).bind fun t14 => (if t14 = true then ((spec_l15Copy.g k (⟨x0.f0, x0.f1⟩ : S58)).bind fun t19 => ((spec_l15CopyTable.g k (⟨x1.f0, x1.f1⟩ : S67)).bind fun t38 => (((if (Int.tmod x1.f1 4) > 0 then (if 0 ≤ (wrap64 ((x1.f0.length : Int) - 1)) ∧ (wrap64 ((x1.f0.length : Int) - 1)) < (x1.f0.length : Int) then (if 0 ≤ (x1.f0.getD (wrap64 ((x1.f0.length : Int) - 1)).toNat 0) ∧ (x1.f0.getD (wrap64 ((x1.f0.length : Int) - 1)).toNat 0) < (x0.f1.length : Int) then (if 0 ≤ (Int.tmod x1.f1 4) ∧ (Int.tmod x1.f1 4) ≤ ((x0.f1.getD (x1.f0.getD (wrap64 ((x1.f0.length : Int) - 1)).toNat 0).toNat []).length : Int) then ((spec_l14CopyCells.g k ((x0.f1.getD (x1.f0.getD (wrap64 ((x1.f0.length : Int) - 1)).toNat 0).toNat []).take (Int.tmod x1.f1 4).toNat)).bind fun t202 => (if (0) + (t202.length) < 4294967296 then (if 0 ≤ (x1.f0.getD (wrap64 ((x1.f0.length : Int) - 1)).toNat 0) ∧ (x1.f0.getD (wrap64 ((x1.f0.length : Int) - 1)).toNat 0) < (x0.f0.length : Int) then (if (x0.f0.getD (x1.f0.getD (wrap64 ((x1.f0.length : Int) - 1)).toNat 0).toNat 0) = 1 then ((spec_l14Copy.g k (⟨x2.f0, x2.f1⟩ : S62)).bind fun t228 => (if ((([] : List S62) ++ t202).length) < 4294967296 then (if 0 ≤ (x1.f0.getD (wrap64 ((x1.f0.length : Int) - 1)).toNat 0) ∧ (x1.f0.getD (wrap64 ((x1.f0.length : Int) - 1)).toNat 0) < ((t19.f1.length : Nat) : Int) then (some (Sum.inl ((⟨t19.f0, (t19.f1.set (x1.f0.getD (wrap64 ((x1.f0.length : Int) - 1)).toNat 0).toNat ((([] : List S62) ++ t202) ++ [t228]))⟩ : S58), (⟨t38.f0, wrap64 (t38.f1 + 1)⟩ : S67), true))) else none) else none)) else (some (Sum.inr ((([] : List S62) ++ t202), t19.f1)))) else none) else none)) else none) else none) else none) else (some (Sum.inr (([] : List S62), t19.f1)))) : Option ((S58 × S67 × Bool) ⊕ ((List S62) × (List (List S62))))).bind (fun oc181 => match oc181 with | .inl r_ => some r_ | .inr ⟨xs59, xs62⟩ => ((spec_TakePage.g k t19.f0).bind fun t68 => (if t68.2.2 = true then ((spec_l14Copy.g k (⟨x2.f0, x2.f1⟩ : S62)).bind fun t86 => (if (xs59.length) < 4294967296 then (if 0 ≤ t68.2.1 ∧ t68.2.1 < ((xs62.length : Nat) : Int) then (((if (Int.tmod x1.f1 4) > 0 then (if 0 ≤ (wrap64 ((t38.f0.length : Int) - 1)) ∧ (wrap64 ((t38.f0.length : Int) - 1)) < ((t38.f0.length : Nat) : Int) then ((spec_DropPage.g k t68.1 (t38.f0.getD (wrap64 ((t38.f0.length : Int) - 1)).toNat 0)).bind fun t155 => (some (t155.1, (t38.f0.set (wrap64 ((t38.f0.length : Int) - 1)).toNat t68.2.1)))) else none) else (if (t38.f0.length) < 4294967296 then (some (t68.1, (t38.f0 ++ [t68.2.1]))) else none)) : Option ((List Int) × (List Int))).bind (fun oc147 => (some ((⟨oc147.1, (xs62.set t68.2.1.toNat (xs59 ++ [t86]))⟩ : S58), (⟨oc147.2, wrap64 (t38.f1 + 1)⟩ : S67), true)))) else none) else none)) else (some ((⟨[], []⟩ : S58), (⟨[], 0⟩ : S67), false)))))))) else (some ((⟨[], []⟩ : S58), (⟨[], 0⟩ : S67), false))))
theorem spec_AddCell.runs (k : Nat) (x0 : S58) (A0_0 : Option Addr) (c0_0 : Nat) (A0_1 : Option Addr) (c0_1 : Nat) (x1 : S67) (A1_0 : Option Addr) (c1_0 : Nat) (x2 : S62) (A2_0 : Option Addr) (c2_0 : Nat) (A2_1 : Option Addr) (c2_1 : Nat) (r1 : S58) (r2 : S67) (r3 : Bool) (w : World) (hr0_0 : kI.C w A0_0 x0.f0.length x0.f0) (hc0_0 : x0.f0.length ≤ c0_0) (hr0_1 : kS62.C w A0_1 x0.f1.length x0.f1) (hc0_1 : x0.f1.length ≤ c0_1) (hr1_0 : kI.C w A1_0 x1.f0.length x1.f0) (hc1_0 : x1.f0.length ≤ c1_0) (hr2_0 : kS149.C w A2_0 x2.f0.length x2.f0) (hc2_0 : x2.f0.length ≤ c2_0) (hr2_1 : kS149.C w A2_1 x2.f1.length x2.f1) (hc2_1 : x2.f1.length ≤ c2_1) (H : spec_AddCell.g k x0 x1 x2 = some (r1, r2, r3)) :
   Calls prog 46 #[.agg #[.slice A0_0 x0.f0.length c0_0, .slice A0_1 x0.f1.length c0_1], .agg #[.slice A1_0 x1.f0.length c1_0, vi x1.f1], .agg #[.slice A2_0 x2.f0.length c2_0, .slice A2_1 x2.f1.length c2_1]] w fun e w' => ∃ (A0_0_ : Option Addr) (c0_0_ : Nat) (A0_1_ : Option Addr) (c0_1_ : Nat) (A1_0_ : Option Addr) (c1_0_ : Nat), e = .returned (.tuple #[.agg #[.slice A0_0_ r1.f0.length c0_0_, .slice A0_1_ r1.f1.length c0_1_], .agg #[.slice A1_0_ r2.f0.length c1_0_, vi r2.f1], .bool r3]) ∧ r1.f0.length ≤ c0_0_ ∧ Foot (cF kI A0_0_ r1.f0) w' (fun k_ => w.heap.size ≤ k_) ∧ r1.f1.length ≤ c0_1_ ∧ Foot (cF kS62 A0_1_ r1.f1) w' (fun k_ => w.heap.size ≤ k_) ∧ r2.f0.length ≤ c1_0_ ∧ Foot (cF kI A1_0_ r2.f0) w' (fun k_ => w.heap.size ≤ k_) ∧ Below w.heap.size w w' := by
 unfold spec_AddCell.g at H
 have HS : St (fun _ => True) w w [] [(cF kI A0_0 x0.f0), (cF kS62 A0_1 x0.f1), (cF kI A1_0 x1.f0), (cF kS149 A2_0 x2.f0), (cF kS149 A2_1 x2.f1)] [] := St.start (foot_cons (foot_C (Kd.heap_int _) hr0_0) (foot_cons (foot_C (Kd.heap_slice _ h62) hr0_1) (foot_cons (foot_C (Kd.heap_int _) hr1_0) (foot_cons (foot_C (Kd.heap_slice _ h149) hr2_0) (foot_cons (foot_C (Kd.heap_slice _ h149) hr2_1) foot_nil)))))
 refine cw_ (n := 131) func46 fun R_ hR_ => ?_
 refine sr_ fun _ hK1 => ?_
 refine bo_ HS (fun b2 w3 hb2 HS => ?_)
 refine bo_ HS (fun b4 w5 hb4 HS => ?_)
 refine bo_ HS (fun b6 w7 hb6 HS => ?_)
 refine WL.alloc HS (v := .agg #[sn, sn]) (cs := #[sn, sn]) rfl rfl (by decide) rfl (by kernel_rfl) rfl (fun b8 w9 hb8 HS => ?_)
 exact by (
 refine WL.alloc HS (v := .agg #[sn, vi 0]) (cs := #[sn, vi 0]) rfl rfl (by decide) rfl (by kernel_rfl) rfl (fun b10 w11 hb10 HS => ?_)
 refine ad_ hK1 ?_
 clear hK1
 refine WC.seq fun _ hK12 => ?_
 refine sr_ fun _ hK13 => ?_
 refine v_ (ls_ (HS.mu 4 rfl) underlying58 part_all) ?_
 refine v_ (ls_ (HS.mu 3 rfl) underlying67 part_all) ?_
 obtain ⟨t14, ha15, H⟩ := bind_some H
 exact by (
 refine cs_ HS func52 (spec_TableOk.runs k (⟨x0.f0, x0.f1⟩ : S58) A0_0 c0_0 A0_1 c0_1 (⟨x1.f0, x1.f1⟩ : S67) A1_0 c1_0 t14 _ (HS.getO 0 rfl) hc0_0 (HS.getO 1 rfl) hc0_1 (HS.getO 2 rfl) hc1_0 ha15) (fun w16 HS => ?_)
 clear ha15
 refine nt_ ?_
 refine dn_ hK13 ?_
 clear hK13
 rcases eti_ H with ⟨c17, H⟩ | ⟨c17, H⟩
 · refine wy_ (nB (bF c17)) (sr_ fun _ hK272 => ?_)
   refine v_ (Run.build (cells := #[sn, sn]) rfl [] trivial (by kernel_rfl)) ?_
   exact by (
   refine v_ (Run.build (cells := #[sn, vi 0]) rfl [] trivial (by kernel_rfl)) ?_
   refine WL.storeW HS 1 rfl rfl rfl rfl rfl rfl (oneL rfl) (by kernel_rfl) rfl (fun w273 HS => ?_)
   dsimp only [List.set] at HS
   refine WL.storeW HS 0 rfl rfl rfl rfl rfl rfl (oneL rfl) (by kernel_rfl) rfl (fun w274 HS => ?_)
   dsimp only [List.set] at HS
   refine ad_ hK272 ?_
   clear hK272
   obtain ⟨rfl, rfl, rfl⟩ := (by have h_ := os H; simp only [Prod.mk.injEq] at h_; exact h_)
   exact rt3 Try.f46 rfl ⟨_, rfl, resv_box (HS.mu 1 rfl) underlying58 rfl (by kernel_rfl)⟩ ⟨_, rfl, resv_box (HS.mu 0 rfl) underlying67 rfl (by kernel_rfl)⟩ rfl hR_ ⟨_, _, _, _, _, _, rfl, (Nat.le_refl _), (fun W_ _ => Kd.C_nil _ _), (Nat.le_refl _), (fun W_ _ => Kd.C_nil _ _), (Nat.le_refl _), (fun W_ _ => Kd.C_nil _ _), HS.b⟩ )
 exact by (
 refine wn_ (nB c17) (WC.skip (via_ hK12 (sr_ fun _ hK18 => ?_)))
 clear hK12
 refine v_ (ls_ (HS.mu 4 rfl) underlying58 part_all) ?_
 obtain ⟨t19, ha20, H⟩ := bind_some H
 refine c_ func111 (spec_l15Copy.runs k (⟨x0.f0, x0.f1⟩ : S58) A0_0 c0_0 A0_1 c0_1 t19 _ (HS.getO 0 rfl) hc0_0 (HS.getO 1 rfl) hc0_1 ha20) ?_
 clear ha20
 rintro _ w21 ⟨v22, bl23, v24, bl25, rfl, hO_, hb⟩
 replace HS := HS.got hb hO_
 exact by (
 dsimp only [List.cons_append, List.nil_append] at HS
 clear hO_
 obtain ⟨I26, bl27, HS⟩ := HS.unseal (sz := 1) rfl
 replace HS := HS.freezeN 1 (p := (rF kI t19.f0 I26)) rfl (fun _ hP_ _ => RepsB.reps hP_)
 dsimp only [List.eraseIdx] at HS
 replace HS := HS.front 1 rfl
 dsimp only [List.eraseIdx] at HS
 obtain ⟨I28, bl29, HS⟩ := HS.unseal (sz := 1) rfl
 exact by (
 replace HS := HS.freezeN 1 (p := (rF kS62 t19.f1 I28)) rfl (fun _ hP_ _ => RepsB.reps hP_)
 dsimp only [List.eraseIdx] at HS
 refine ⟨_, rfl, ?_⟩
 clear hb
 refine WL.alloc HS (v := .agg #[sn, sn]) (cs := #[sn, sn]) rfl rfl (by decide) rfl (by kernel_rfl) rfl (fun b30 w31 hb30 HS => ?_)
 obtain ⟨A33, c34, rfl⟩ := row_slice (HS.mu 2 rfl)
 obtain ⟨A35, c36, rfl⟩ := row_slice (HS.mu 1 rfl)
 refine WL.storeW HS 0 rfl rfl rfl rfl rfl rfl (oneL rfl) (by kernel_rfl) rfl (fun w32 HS => ?_)
 exact by (
 dsimp only [List.set] at HS
 refine dn_ hK18 (sr_ fun _ hK37 => ?_)
 clear hK18
 refine v_ (ls_ (HS.mu 6 rfl) underlying67 part_all) ?_
 obtain ⟨t38, ha39, H⟩ := bind_some H
 refine c_ func112 (spec_l15CopyTable.runs k (⟨x1.f0, x1.f1⟩ : S67) A1_0 c1_0 t38 _ (HS.getO 2 rfl) hc1_0 ha39) ?_
 clear ha39
 rintro _ w40 ⟨v41, bl42, rfl, hO_, hb⟩
 exact by (
 replace HS := HS.got hb hO_
 dsimp only [List.cons_append, List.nil_append] at HS
 clear hO_
 obtain ⟨I43, bl44, HS⟩ := HS.unseal (sz := 1) rfl
 replace HS := HS.freezeN 1 (p := (rF kI t38.f0 I43)) rfl (fun _ hP_ _ => RepsB.reps hP_)
 dsimp only [List.eraseIdx] at HS
 refine ⟨_, rfl, ?_⟩
 clear hb
 exact by (
 refine WL.alloc HS (v := .agg #[sn, vi 0]) (cs := #[sn, vi 0]) rfl rfl (by decide) rfl (by kernel_rfl) rfl (fun b45 w46 hb45 HS => ?_)
 obtain ⟨A48, c49, rfl⟩ := row_slice (HS.mu 1 rfl)
 refine WL.storeW HS 0 rfl rfl rfl rfl rfl rfl (oneL rfl) (by kernel_rfl) rfl (fun w47 HS => ?_)
 dsimp only [List.set] at HS
 refine dn_ hK37 (sr_ fun _ hK50 => ?_)
 clear hK37
 refine v_ (fa_ underlying67) ?_
 refine v_ (lb_ (HS.mu 8 rfl) underlying3 rfl) ?_
 exact by (
 refine v_ (Run.bin rfl rfl rfl (bin_rem (show (4 : Int) ≠ 0 by decide))) ?_
 refine ad_ hK50 ?_
 clear hK50
 refine sr_ fun _ hK51 => ?_
 refine WL.lit0 HS rfl rfl (by decide) rfl underlying71 (sz := 2) (by kernel_rfl) (fun v52 w53 HS => ?_)
 replace HS := HS.deriveN (p := (rF k62 ([] : List S62) [])) (fun _ _ => Reps.none _ _)
 refine ad_ hK51 ?_
 clear hK51
 exact by (
 refine WC.seq fun K54 hK54 => ?_
 obtain ⟨G55, hG56, oc57, H, Ho58⟩ := open_G H
 have X65 : ∀ E_ W_, (∃ (xs59 : List S62) (v60 : Value) (I61 : List Value) (xs62 : List (List S62)) (v63 : Value) (I64 : List Value), E_ = [(5, .pointer (some ⟨b6, 0, none⟩)), (6, .pointer (some ⟨b8, 0, none⟩)), (7, .pointer (some ⟨b10, 0, none⟩)), (9, .pointer (some ⟨b30, 0, none⟩)), (10, .pointer (some ⟨b45, 0, none⟩)), (11, vi (Int.tmod x1.f1 4)), (12, v60)] ∧ G55 (Sum.inr (xs59, xs62)) = some (r1, r2, r3) ∧ St (fun _ => True) w W_ [rowM w.heap.size 62 2 v60 xs59.length I61, boxM b45 #[(.slice A48 t38.f0.length c49), vi t38.f1] 67, rowM w.heap.size 3 1 (.slice A48 t38.f0.length c49) t38.f0.length I43, boxM b30 #[(.slice A33 t19.f0.length c34), v63] 58, rowM w.heap.size 71 1 v63 xs62.length I64, rowM w.heap.size 3 1 (.slice A33 t19.f0.length c34) t19.f0.length I26, boxM b10 #[sn, vi 0] 67, boxM b8 #[sn, sn] 58, boxM b6 #[.slice A2_0 x2.f0.length c2_0, .slice A2_1 x2.f1.length c2_1] 62, boxM b4 #[.slice A1_0 x1.f0.length c1_0, vi x1.f1] 67, boxM b2 #[.slice A0_0 x0.f0.length c0_0, .slice A0_1 x0.f1.length c0_1] 58] [(cF kI A0_0 x0.f0), (cF kS62 A0_1 x0.f1), (cF kI A1_0 x1.f0), (cF kS149 A2_0 x2.f0), (cF kS149 A2_1 x2.f1)] [(rF k62 xs59 I61), (rF kI t38.f0 I43), (rF kS62 xs62 I64), (rF kI t19.f0 I26)]) → ∀ a, Fits a 131 E_ → K54 a W_ := by
   rintro E_ w66 ⟨xs59, v60, I61, xs62, v63, I64, rfl, H, HS⟩
   rw [hG56] at H
   (try dsimp only at H)
   refine hK54 _ _ ?_
   clear hK54
   exact by (
   refine sr_ fun _ hK67 => ?_
   refine v_ (fa_ underlying58) ?_
   refine v_ (lb_ (HS.mu 3 rfl) underlying22 rfl) ?_
   obtain ⟨t68, ha69, H⟩ := bind_some H
   refine c_ func115 (spec_TakePage.runs k A33 c34 t19.f0 t68.1 t68.2.1 t68.2.2 _ (row_C rfl (HS.mu 5 rfl) (HS.getN 3 rfl)) (row_le (HS.mu 5 rfl)) ha69) ?_
   clear ha69
   rintro _ w70 ⟨v71, bl72, rfl, hO_, hb⟩
   replace HS := HS.got hb hO_
   exact by (
   dsimp only [List.cons_append, List.nil_append] at HS
   clear hO_
   obtain ⟨I73, bl74, HS⟩ := HS.unseal (sz := 1) rfl
   replace HS := HS.freezeN 1 (p := (rF kI t68.1 I73)) rfl (fun _ hP_ _ => RepsB.reps hP_)
   dsimp only [List.eraseIdx] at HS
   refine ⟨_, rfl, ?_⟩
   clear hb
   refine mv_ ?_
   exact by (
   refine v_ (Run.extract rfl rfl rfl) ?_
   refine v_ (Run.extract rfl rfl rfl) ?_
   refine v_ (Run.extract rfl rfl rfl) ?_
   refine fast_ ?_
   refine via_ hK67 (WC.seq fun _ hK75 => ?_)
   clear hK67
   refine sr_ fun _ hK76 => ?_
   refine mv_ ?_
   exact by (
   refine nt_ ?_
   refine dn_ hK76 ?_
   clear hK76
   rcases eti_ H with ⟨c77, H⟩ | ⟨c77, H⟩
   · refine wy_ (nB (bF c77)) (sr_ fun _ hK178 => ?_)
     refine v_ (Run.build (cells := #[sn, sn]) rfl [] trivial (by kernel_rfl)) ?_
     refine v_ (Run.build (cells := #[sn, vi 0]) rfl [] trivial (by kernel_rfl)) ?_
     refine WL.storeW HS 8 rfl rfl rfl rfl rfl rfl (oneL rfl) (by kernel_rfl) rfl (fun w179 HS => ?_)
     exact by (
     dsimp only [List.set] at HS
     refine WL.storeW HS 7 rfl rfl rfl rfl rfl rfl (oneL rfl) (by kernel_rfl) rfl (fun w180 HS => ?_)
     dsimp only [List.set] at HS
     refine ad_ hK178 ?_
     clear hK178
     obtain ⟨rfl, rfl, rfl⟩ := (by have h_ := os H; simp only [Prod.mk.injEq] at h_; exact h_)
     exact rt3 Try.f46 rfl ⟨_, rfl, resv_box (HS.mu 8 rfl) underlying58 rfl (by kernel_rfl)⟩ ⟨_, rfl, resv_box (HS.mu 7 rfl) underlying67 rfl (by kernel_rfl)⟩ rfl hR_ ⟨_, _, _, _, _, _, rfl, (Nat.le_refl _), (fun W_ _ => Kd.C_nil _ _), (Nat.le_refl _), (fun W_ _ => Kd.C_nil _ _), (Nat.le_refl _), (fun W_ _ => Kd.C_nil _ _), HS.b⟩ )
   refine wn_ (nB c77) (WC.skip (via_ hK75 (sr_ fun _ hK78 => ?_)))
   exact by (
   clear hK75
   refine mv_ ?_
   refine v_ (fa_ underlying58) ?_
   obtain ⟨A80, c81, rfl⟩ := row_slice (HS.mu 0 rfl)
   refine WL.store HS 4 rfl rfl rfl rfl rfl rfl rfl (by kernel_rfl) (ble_ rfl) (cs' := #[(.slice A80 t68.1.length c81), v63]) (by kernel_rfl) (fun w79 HS => ?_)
   dsimp only [List.set] at HS
   refine dn_ hK78 (WC.seq fun _ hK82 => ?_)
   clear hK78
   exact by (
   refine WC.drawW HS [boxM b45 #[(.slice A48 t38.f0.length c49), vi t38.f1] 67, boxM b30 #[(.slice A80 t68.1.length c81), v63] 58, boxM b10 #[sn, vi 0] 67, boxM b8 #[sn, sn] 58, boxM b6 #[.slice A2_0 x2.f0.length c2_0, .slice A2_1 x2.f1.length c2_1] 62, boxM b4 #[.slice A1_0 x1.f0.length c1_0, vi x1.f1] 67, boxM b2 #[.slice A0_0 x0.f0.length c0_0, .slice A0_1 x0.f1.length c0_1] 58] (fun _ HS => ⟨(HS.mu 2 rfl), (HS.mu 4 rfl), (HS.mu 7 rfl), (HS.mu 8 rfl), (HS.mu 9 rfl), (HS.mu 10 rfl), (HS.mu 11 rfl), trivial⟩) [9] rfl rfl (fun w83 HS => ?_)
   refine df_ 0 underlying58 ?_
   refine dm_ 2 ?_
   refine dm_ 3 ?_
   obtain ⟨A84, c85, rfl⟩ := row_slice (HS.mu 5 rfl)
   refine dt_ 1 ⟨HS.nowO, HS.nowN, ⟨(HS.mu 2 rfl), (HS.mu 4 rfl), (HS.mu 7 rfl), (HS.mu 8 rfl), (HS.mu 9 rfl), (HS.mu 10 rfl), (HS.mu 11 rfl), trivial⟩⟩ (fun w_ hw_ => Run.load rfl rfl underlying56 rfl (box_cell hw_.2.2.2.1 rfl)) ?_
   refine dt_ 4 ⟨HS.nowO, HS.nowN, ⟨(HS.mu 2 rfl), (HS.mu 4 rfl), (HS.mu 7 rfl), (HS.mu 8 rfl), (HS.mu 9 rfl), (HS.mu 10 rfl), (HS.mu 11 rfl), trivial⟩⟩ (fun w_ hw_ => Run.loadS (cs := [.slice A2_0 x2.f0.length c2_0, .slice A2_1 x2.f1.length c2_1]) rfl rfl underlying62 rfl (by kernel_rfl) (box_part hw_.2.2.2.2.2.2.1 part_all)) ?_
   obtain ⟨t86, ha87, H⟩ := bind_some H
   exact by (
   refine dc_ 5 (w_none rfl) func114 (spec_l14Copy.runs k (⟨x2.f0, x2.f1⟩ : S62) A2_0 c2_0 A2_1 c2_1 t86 _ (HS.getO 3 rfl) hc2_0 (HS.getO 4 rfl) hc2_1 ha87) ?_
   clear ha87
   rintro _ w88 ⟨v89, bl90, v91, bl92, rfl, hO_, hb⟩
   replace HS := HS.got hb hO_
   dsimp only [List.cons_append, List.nil_append] at HS
   clear hO_
   obtain ⟨I93, bl94, HS⟩ := HS.unseal (sz := 1) rfl
   replace HS := HS.freezeN 1 (p := (rF kS149 t86.f0 I93)) rfl (fun _ hP_ _ => RepsB.reps hP_)
   exact by (
   dsimp only [List.eraseIdx] at HS
   replace HS := HS.front 1 rfl
   dsimp only [List.eraseIdx] at HS
   obtain ⟨I95, bl96, HS⟩ := HS.unseal (sz := 1) rfl
   replace HS := HS.freezeN 1 (p := (rF kS149 t86.f1 I95)) rfl (fun _ hP_ _ => RepsB.reps hP_)
   dsimp only [List.eraseIdx] at HS
   refine ⟨⟨HS.nowO, HS.nowN.2.2, ⟨(HS.mu 4 rfl), (HS.mu 6 rfl), (HS.mu 9 rfl), (HS.mu 10 rfl), (HS.mu 11 rfl), (HS.mu 12 rfl), (HS.mu 13 rfl), trivial⟩⟩, _, rfl, ?_⟩
   clear hb
   exact by (
   obtain ⟨A97, c98, rfl⟩ := row_slice (HS.mu 1 rfl)
   have le99 := row_le (HS.mu 1 rfl)
   replace HS := HS.freezeN 1 (p := (cF kS149 A97 (t86.f0))) rfl (fun W_ hm_ h_ => row_C (by rfl) hm_ h_.2.1)
   dsimp only [List.eraseIdx] at HS
   obtain ⟨A100, c101, rfl⟩ := row_slice (HS.mu 0 rfl)
   have le102 := row_le (HS.mu 0 rfl)
   replace HS := HS.freezeN 0 (p := (cF kS149 A100 (t86.f1))) rfl (fun W_ hm_ h_ => row_C (by rfl) hm_ h_.2.1)
   dsimp only [List.eraseIdx] at HS
   exact by (
   have HS1 := HS.below (below_alloc (Below.refl _ _) (.cells #[.slice A97 t86.f0.length c98, .slice A100 t86.f1.length c101] 62))
   refine dv_ 6 (w_none rfl) (Run.lit1 (z := (.agg #[sn, sn])) (vs := [.slice A97 t86.f0.length c98, .slice A100 t86.f1.length c101]) rfl rfl rfl underlying71 (by kernel_rfl) (ble_ rfl) (ble_ rfl)) ⟨HS1.nowO, HS1.nowN.2.2.2.2, ⟨(HS1.mu 2 rfl), (HS1.mu 4 rfl), (HS1.mu 7 rfl), (HS1.mu 8 rfl), (HS1.mu 9 rfl), (HS1.mu 10 rfl), (HS1.mu 11 rfl), trivial⟩⟩ ?_
   obtain ⟨q103, H⟩ := if_some H
   refine WD.append 7 (w_none rfl) HS1 1 rfl rfl (.agg #[sn, sn]) 48 underlying71 (by kernel_rfl) rfl (by decide) (by decide) rfl rfl [.slice A97 t86.f0.length c98, .slice A100 t86.f1.length c101] rfl (lit_news _ _ _) (oneL rfl) (by omega) ((xs59 ++ [t86]).length) (by simp) (fun v104 w105 I106 hI107 HS => ?_)
   dsimp only [List.set] at HS
   replace HS := HS.deriveN (p := (rF k62 (xs59 ++ [t86]) I106)) (fun W_ hN_ => reps_snoc hI107 hN_.2.2.2.2.2.1 (k62_mk _ t86 (le99) hN_.2.1 (le102) hN_.1))
   clear HS1
   refine ⟨⟨HS.nowO, HS.nowN.2.2.2.2.2, ⟨(HS.mu 2 rfl), (HS.mu 4 rfl), (HS.mu 7 rfl), (HS.mu 8 rfl), (HS.mu 9 rfl), (HS.mu 10 rfl), (HS.mu 11 rfl), trivial⟩⟩, ?_⟩
   exact by (
   obtain ⟨⟨q108, q109⟩, H⟩ := if_some H
   obtain ⟨ad110, rfl⟩ := row_open (HS.mu 5 rfl) (by omega)
   refine di_ 8 underlying56 1 q108 q109 ?_
   obtain ⟨A114, c115, rfl⟩ := row_slice (HS.mu 1 rfl)
   have le116 := row_le (HS.mu 1 rfl)
   replace HS := HS.freezeN 1 (p := (cF k62 A114 ((xs59 ++ [t86])))) rfl (fun W_ hm_ h_ => row_C (by rfl) hm_ h_.1)
   dsimp only [List.eraseIdx] at HS
   have hk_ := mul_room q108 q109 1
   exact by (
   refine WD.putElL 9 HS 4 rfl rfl rfl rfl [.slice A114 ((xs59 ++ [t86]).length) c115] rfl (oneL rfl) (by kernel_rfl) (by first | omega | (rw [List.length_nil]; omega) | (simp; omega)) (fun w111 I112 hI113 HS => ?_)
   dsimp only [List.set] at HS
   clear hk_
   replace HS := HS.deriveN (p := (rF kS62 (xs62.set t68.2.1.toNat (xs59 ++ [t86])) I112)) (fun W_ hN_ => reps_set hI113 hN_.2.2.2.2.2.2.2.2.2.1 (K_slice le116 hN_.1) (toNat_lt q108 q109))
   replace HS := HS.rowN 4 rfl (show xs62.length = (xs62.set t68.2.1.toNat (xs59 ++ [t86])).length from (List.length_set ..).symm)
   dsimp only [List.set] at HS
   generalize hv118 : (Value.slice (some ad110) xs62.length c85) = v117 at HS ⊢
   refine dd_ (via_ hK82 (WC.seq fun K119 hK119 => ?_))
   exact by (
   clear hK82
   obtain ⟨G120, hG121, oc122, H, Ho123⟩ := open_G H
   have X130 : ∀ E_ W_, (∃ (xs124 : List Int) (v125 : Value) (I126 : List Value) (xs127 : List Int) (v128 : Value) (I129 : List Value), E_ = [(6, .pointer (some ⟨b8, 0, none⟩)), (7, .pointer (some ⟨b10, 0, none⟩)), (9, .pointer (some ⟨b30, 0, none⟩)), (10, .pointer (some ⟨b45, 0, none⟩))] ∧ G120 (xs124, xs127) = some (r1, r2, r3) ∧ St (fun _ => True) w W_ [rowM w.heap.size 3 1 v125 xs124.length I126, boxM b45 #[v128, vi t38.f1] 67, rowM w.heap.size 3 1 v128 xs127.length I129, boxM b30 #[v125, v117] 58, rowM w.heap.size 71 1 v117 ((xs62.set t68.2.1.toNat (xs59 ++ [t86])).length) I112, boxM b10 #[sn, vi 0] 67, boxM b8 #[sn, sn] 58, boxM b6 #[.slice A2_0 x2.f0.length c2_0, .slice A2_1 x2.f1.length c2_1] 62, boxM b4 #[.slice A1_0 x1.f0.length c1_0, vi x1.f1] 67, boxM b2 #[.slice A0_0 x0.f0.length c0_0, .slice A0_1 x0.f1.length c0_1] 58] [(cF kI A0_0 x0.f0), (cF kS62 A0_1 x0.f1), (cF kI A1_0 x1.f0), (cF kS149 A2_0 x2.f0), (cF kS149 A2_1 x2.f1)] [(rF kS62 (xs62.set t68.2.1.toNat (xs59 ++ [t86])) I112), (rF kI xs124 I126), (rF kI xs127 I129)]) → ∀ a, Fits a 131 E_ → K119 a W_ := by
     rintro E_ w131 ⟨xs124, v125, I126, xs127, v128, I129, rfl, H, HS⟩
     rw [hG121] at H
     (try dsimp only at H)
     refine hK119 _ _ ?_
     clear hK119
     exact by (
     refine sr_ fun _ hK132 => ?_
     refine v_ (fa_ underlying67) ?_
     refine v_ (lb_ (HS.mu 1 rfl) underlying3 rfl) ?_
     refine b_ bin_add64 ?_
     refine v_ (fa_ underlying67) ?_
     refine WL.store HS 1 rfl rfl rfl rfl rfl rfl rfl (by kernel_rfl) (ble_ rfl) (cs' := #[v128, vi (wrap64 (t38.f1 + 1))]) (by kernel_rfl) (fun w133 HS => ?_)
     dsimp only [List.set] at HS
     refine dn_ hK132 (WC.seq fun _ hK134 => ?_)
     exact by (
     clear hK132
     refine WC.drawW HS [boxM b45 #[v128, vi (wrap64 (t38.f1 + 1))] 67, boxM b30 #[v125, v117] 58, boxM b6 #[.slice A2_0 x2.f0.length c2_0, .slice A2_1 x2.f1.length c2_1] 62, boxM b4 #[.slice A1_0 x1.f0.length c1_0, vi x1.f1] 67, boxM b2 #[.slice A0_0 x0.f0.length c0_0, .slice A0_1 x0.f1.length c0_1] 58] (fun _ HS => ⟨(HS.mu 1 rfl), (HS.mu 3 rfl), (HS.mu 7 rfl), (HS.mu 8 rfl), (HS.mu 9 rfl), trivial⟩) [] rfl rfl (fun w135 HS => ?_)
     obtain ⟨A136, c137, rfl⟩ := row_slice (HS.mu 0 rfl)
     obtain ⟨A138, c139, rfl⟩ := row_slice (HS.mu 4 rfl)
     refine dt_ 0 ⟨HS.nowO, HS.nowN, ⟨(HS.mu 1 rfl), (HS.mu 3 rfl), (HS.mu 7 rfl), (HS.mu 8 rfl), (HS.mu 9 rfl), trivial⟩⟩ (fun w_ hw_ => Run.loadS (cs := [(.slice A136 xs124.length c137), (.slice A138 ((xs62.set t68.2.1.toNat (xs59 ++ [t86])).length) c139)]) rfl rfl underlying58 rfl (by kernel_rfl) (box_part hw_.2.2.2.1 part_all)) ?_
     obtain ⟨A140, c141, rfl⟩ := row_slice (HS.mu 2 rfl)
     refine dt_ 1 ⟨HS.nowO, HS.nowN, ⟨(HS.mu 1 rfl), (HS.mu 3 rfl), (HS.mu 7 rfl), (HS.mu 8 rfl), (HS.mu 9 rfl), trivial⟩⟩ (fun w_ hw_ => Run.loadS (cs := [(.slice A140 xs127.length c141), vi (wrap64 (t38.f1 + 1))]) rfl rfl underlying67 rfl (by kernel_rfl) (box_part hw_.2.2.1 part_all)) ?_
     refine WD.storeS 2 HS 6 rfl rfl rfl rfl (oneL rfl) (by kernel_rfl) (ble_ rfl) (cs' := #[(.slice A136 xs124.length c137), (.slice A138 ((xs62.set t68.2.1.toNat (xs59 ++ [t86])).length) c139)]) (by kernel_rfl) (fun w142 HS => ?_)
     exact by (
     dsimp only [List.set] at HS
     refine ⟨⟨HS.nowO, HS.nowN, ⟨(HS.mu 1 rfl), (HS.mu 3 rfl), (HS.mu 7 rfl), (HS.mu 8 rfl), (HS.mu 9 rfl), trivial⟩⟩, ?_⟩
     refine WD.storeS 3 HS 5 rfl rfl rfl rfl (oneL rfl) (by kernel_rfl) (ble_ rfl) (cs' := #[(.slice A140 xs127.length c141), vi (wrap64 (t38.f1 + 1))]) (by kernel_rfl) (fun w143 HS => ?_)
     dsimp only [List.set] at HS
     refine ⟨⟨HS.nowO, HS.nowN, ⟨(HS.mu 1 rfl), (HS.mu 3 rfl), (HS.mu 7 rfl), (HS.mu 8 rfl), (HS.mu 9 rfl), trivial⟩⟩, ?_⟩
     refine dp_ 4 (fun _ => Run.assign rfl rfl) ?_
     refine dd_ (via_ hK134 (WC.ret ?_))
     clear hK134
     exact by (
     have le144 := row_le (HS.mu 0 rfl)
     replace HS := HS.freezeN 0 (p := (cF kI A136 (xs124))) rfl (fun W_ hm_ h_ => row_C (by rfl) hm_ h_.2.1)
     dsimp only [List.eraseIdx] at HS
     have le145 := row_le (HS.mu 3 rfl)
     replace HS := HS.freezeN 3 (p := (cF kS62 A138 ((xs62.set t68.2.1.toNat (xs59 ++ [t86]))))) rfl (fun W_ hm_ h_ => row_C (by rfl) hm_ h_.2.1)
     dsimp only [List.eraseIdx] at HS
     have le146 := row_le (HS.mu 1 rfl)
     replace HS := HS.freezeN 1 (p := (cF kI A140 (xs127))) rfl (fun W_ hm_ h_ => row_C (by rfl) hm_ h_.2.2.2.2.1)
     exact by (
     dsimp only [List.eraseIdx] at HS
     obtain ⟨rfl, rfl, rfl⟩ := (by have h_ := os H; simp only [Prod.mk.injEq] at h_; exact h_)
     exact fin3 Try.f46 rfl ⟨_, rfl, resv_box (HS.mu 3 rfl) underlying58 rfl (by kernel_rfl)⟩ ⟨_, rfl, resv_box (HS.mu 2 rfl) underlying67 rfl (by kernel_rfl)⟩ rfl hR_ ⟨_, _, _, _, _, _, rfl, le144, (foot_fresh (HS.footN 2 rfl)), le145, (foot_fresh (HS.footN 1 rfl)), le146, (foot_fresh (HS.footN 0 rfl)), HS.b⟩ )))))
   clear hK119
   refine sr_ fun _ hK148 => ?_
   refine mv_ ?_
   refine b_ bin_gtr ?_
   refine dn_ hK148 ?_
   exact by (
   clear hK148
   rcases eti_ H with ⟨c149, H⟩ | ⟨c149, H⟩
   · refine wn_ (dF c149) (rg_ (v_ (fa_ underlying67) ?_))
     refine v_ (lb_ (HS.mu 1 rfl) underlying22 rfl) ?_
     refine mv_ ?_
     refine WL.val rfl rfl (by decide) (Run.lit1 (z := (vi 0)) (vs := [vi t68.2.1]) rfl rfl rfl underlying22 (by kernel_rfl) (ble_ rfl) (ble_ rfl)) ?_
     have HS1 := HS.below (below_alloc (Below.refl _ _) (.cells #[vi t68.2.1] 3))
     obtain ⟨q170, H⟩ := if_some H
     exact by (
     refine WL.append HS1 2 rfl rfl rfl (by decide) rfl (vi 0) 8 underlying22 (by kernel_rfl) rfl (by decide) (by decide) rfl rfl [vi t68.2.1] rfl (lit_news _ _ _) (oneL rfl) (by omega) ((t38.f0 ++ [t68.2.1]).length) (by simp) (fun v171 w172 I173 hI174 HS => ?_)
     dsimp only [List.set] at HS
     replace HS := HS.deriveN (p := (rF kI (t38.f0 ++ [t68.2.1]) I173)) (fun W_ hN_ => reps_snoc hI174 hN_.2.2.2.2.2.2.2.2.2.1 (K_int _))
     clear HS1
     refine v_ (fa_ underlying67) ?_
     obtain ⟨A176, c177, rfl⟩ := row_slice (HS.mu 2 rfl)
     refine WL.store HS 1 rfl rfl rfl rfl rfl rfl rfl (by kernel_rfl) (ble_ rfl) (cs' := #[(.slice A176 ((t38.f0 ++ [t68.2.1]).length) c177), vi t38.f1]) (by kernel_rfl) (fun w175 HS => ?_)
     dsimp only [List.set] at HS
     exact by (
     refine WL.done ?_
     obtain rfl := os H
     exact wv_ iq X130 ⟨t68.1, (.slice A80 t68.1.length c81), I73, (t38.f0 ++ [t68.2.1]), (.slice A176 ((t38.f0 ++ [t68.2.1]).length) c177), I173, rfl, Ho123, (St.pk (St.forget HS 5 rfl) [0, 1, 2, 3, 4] [1, 8, 0] rfl rfl)⟩ ))
   refine wy_ (dT c149) (WC.seq fun _ hK150 => ?_)
   refine WC.drawW HS [rowM w.heap.size 3 1 (.slice A80 t68.1.length c81) t68.1.length I73, boxM b45 #[(.slice A48 t38.f0.length c49), vi t38.f1] 67, rowM w.heap.size 3 1 (.slice A48 t38.f0.length c49) t38.f0.length I43, boxM b30 #[(.slice A80 t68.1.length c81), v117] 58, rowM w.heap.size 71 1 v117 ((xs62.set t68.2.1.toNat (xs59 ++ [t86])).length) I112, rowM w.heap.size 3 1 (.slice A33 t19.f0.length c34) t19.f0.length I26, boxM b10 #[sn, vi 0] 67, boxM b8 #[sn, sn] 58, boxM b6 #[.slice A2_0 x2.f0.length c2_0, .slice A2_1 x2.f1.length c2_1] 62, boxM b4 #[.slice A1_0 x1.f0.length c1_0, vi x1.f1] 67, boxM b2 #[.slice A0_0 x0.f0.length c0_0, .slice A0_1 x0.f1.length c0_1] 58] (fun _ HS => ⟨(HS.mu 0 rfl), (HS.mu 1 rfl), (HS.mu 2 rfl), (HS.mu 3 rfl), (HS.mu 4 rfl), (HS.mu 5 rfl), (HS.mu 6 rfl), (HS.mu 7 rfl), (HS.mu 8 rfl), (HS.mu 9 rfl), (HS.mu 10 rfl), trivial⟩) [15] rfl rfl (fun w151 HS => ?_)
   refine df_ 0 underlying58 ?_
   refine df_ 2 underlying67 ?_
   refine df_ 4 underlying67 ?_
   exact by (
   refine dt_ 1 ⟨HS.nowO, HS.nowN, ⟨(HS.mu 0 rfl), (HS.mu 1 rfl), (HS.mu 2 rfl), (HS.mu 3 rfl), (HS.mu 4 rfl), (HS.mu 5 rfl), (HS.mu 6 rfl), (HS.mu 7 rfl), (HS.mu 8 rfl), (HS.mu 9 rfl), (HS.mu 10 rfl), trivial⟩⟩ (fun w_ hw_ => Run.load rfl rfl underlying22 rfl (box_cell hw_.2.2.2.2.2.1 rfl)) ?_
   refine dt_ 3 ⟨HS.nowO, HS.nowN, ⟨(HS.mu 0 rfl), (HS.mu 1 rfl), (HS.mu 2 rfl), (HS.mu 3 rfl), (HS.mu 4 rfl), (HS.mu 5 rfl), (HS.mu 6 rfl), (HS.mu 7 rfl), (HS.mu 8 rfl), (HS.mu 9 rfl), (HS.mu 10 rfl), trivial⟩⟩ (fun w_ hw_ => Run.load rfl rfl underlying22 rfl (box_cell hw_.2.2.2.1 rfl)) ?_
   refine dt_ 5 ⟨HS.nowO, HS.nowN, ⟨(HS.mu 0 rfl), (HS.mu 1 rfl), (HS.mu 2 rfl), (HS.mu 3 rfl), (HS.mu 4 rfl), (HS.mu 5 rfl), (HS.mu 6 rfl), (HS.mu 7 rfl), (HS.mu 8 rfl), (HS.mu 9 rfl), (HS.mu 10 rfl), trivial⟩⟩ (fun w_ hw_ => Run.load rfl rfl underlying22 rfl (box_cell hw_.2.2.2.1 rfl)) ?_
   refine dp_ 6 (fun _ => Run.len (ts := #[]) rfl underlying22 rfl) ?_
   refine dp_ 7 (fun _ => Run.bin rfl rfl rfl bin_sub64) ?_
   obtain ⟨⟨q152, q153⟩, H⟩ := if_some H
   obtain ⟨ad154, rfl⟩ := row_open (HS.mu 2 rfl) (by omega)
   refine di_ 8 underlying22 1 q152 q153 ?_
   exact by (
   refine dt_ 9 ⟨HS.nowO, HS.nowN, ⟨(HS.mu 0 rfl), (HS.mu 1 rfl), (HS.mu 2 rfl), (HS.mu 3 rfl), (HS.mu 4 rfl), (HS.mu 5 rfl), (HS.mu 6 rfl), (HS.mu 7 rfl), (HS.mu 8 rfl), (HS.mu 9 rfl), (HS.mu 10 rfl), trivial⟩⟩ (fun w_ hw_ => Run.load rfl rfl underlying3 rfl (row_int hw_.2.2.2.2.1 (AllF.get 9 rfl hw_.2.1) q152 q153)) ?_
   obtain ⟨t155, ha156, H⟩ := bind_some H
   refine dc_ 10 (w_none rfl) func116 (spec_DropPage.runs k A80 c81 t68.1 (t38.f0.getD (wrap64 ((t38.f0.length : Int) - 1)).toNat 0) t155.1 t155.2 _ (row_C rfl (HS.mu 0 rfl) (HS.getN 7 rfl)) (row_le (HS.mu 0 rfl)) ha156) ?_
   clear ha156
   rintro _ w157 ⟨v158, bl159, rfl, hO_, hb⟩
   replace HS := HS.got hb hO_
   dsimp only [List.cons_append, List.nil_append] at HS
   clear hO_
   exact by (
   obtain ⟨I160, bl161, HS⟩ := HS.unseal (sz := 1) rfl
   replace HS := HS.freezeN 1 (p := (rF kI t155.1 I160)) rfl (fun _ hP_ _ => RepsB.reps hP_)
   dsimp only [List.eraseIdx] at HS
   refine ⟨⟨HS.nowO, HS.nowN.2, ⟨(HS.mu 1 rfl), (HS.mu 2 rfl), (HS.mu 3 rfl), (HS.mu 4 rfl), (HS.mu 5 rfl), (HS.mu 6 rfl), (HS.mu 7 rfl), (HS.mu 8 rfl), (HS.mu 9 rfl), (HS.mu 10 rfl), (HS.mu 11 rfl), trivial⟩⟩, _, rfl, ?_⟩
   clear hb
   refine dm_ 11 ?_
   refine dp_ 12 (fun _ => Run.extract rfl rfl rfl) ?_
   refine dp_ 13 (fun _ => Run.extract rfl rfl rfl) ?_
   exact by (
   refine df_ 14 underlying58 ?_
   obtain ⟨A163, c164, rfl⟩ := row_slice (HS.mu 0 rfl)
   refine WD.storeL 15 HS 4 rfl rfl rfl rfl rfl (by kernel_rfl) (ble_ rfl) (cs' := #[(.slice A163 t155.1.length c164), v117]) (by kernel_rfl) (fun w162 HS => ?_)
   dsimp only [List.set] at HS
   refine dd_ (via_ hK150 (rg_ (v_ (fa_ underlying67) ?_)))
   clear hK150
   refine v_ (lb_ (HS.mu 2 rfl) underlying22 rfl) ?_
   refine v_ (fa_ underlying67) ?_
   exact by (
   refine v_ (lb_ (HS.mu 2 rfl) underlying22 rfl) ?_
   refine ln_ underlying22 ?_
   refine b_ bin_sub64 ?_
   refine mv_ ?_
   refine v_ (ia_ underlying22 1 q152 q153) ?_
   have hk_ := mul_room q152 q153 1
   refine WL.putEl HS 3 rfl rfl rfl rfl rfl rfl [vi t68.2.1] rfl (oneL rfl) (by kernel_rfl) (by first | omega | (rw [List.length_nil]; omega) | (simp; omega)) (fun w165 I166 hI167 HS => ?_)
   dsimp only [List.set] at HS
   exact by (
   clear hk_
   replace HS := HS.deriveN (p := (rF kI (t38.f0.set (wrap64 ((t38.f0.length : Int) - 1)).toNat t68.2.1) I166)) (fun W_ hN_ => reps_set hI167 hN_.2.2.2.2.2.2.2.2.2.2.1 (K_int _) (toNat_lt q152 q153))
   replace HS := HS.rowN 3 rfl (show t38.f0.length = (t38.f0.set (wrap64 ((t38.f0.length : Int) - 1)).toNat t68.2.1).length from (List.length_set ..).symm)
   dsimp only [List.set] at HS
   generalize hv169 : (Value.slice (some ad154) t38.f0.length c49) = v168 at HS ⊢
   refine WL.done ?_
   obtain rfl := os H
   exact wv_ iq X130 ⟨t155.1, (.slice A163 t155.1.length c164), I160, (t38.f0.set (wrap64 ((t38.f0.length : Int) - 1)).toNat t68.2.1), v168, I166, rfl, Ho123, (St.pk (St.forget (St.forget HS 6 rfl) 1 rfl) [0, 1, 2, 3, 4] [2, 1, 0] rfl rfl)⟩ ))))))))))))))))))))
 exact by (
 clear hK54
 refine sr_ fun _ hK182 => ?_
 refine mv_ ?_
 refine b_ bin_gtr ?_
 refine dn_ hK182 ?_
 clear hK182
 rcases eti_ H with ⟨c183, H⟩ | ⟨c183, H⟩
 · refine wn_ (dF c183) (WC.skip ?_)
   obtain rfl := os H
   exact wv_ iq X65 ⟨([] : List S62), v52, ([]), t19.f1, (.slice A35 t19.f1.length c36), I28, rfl, Ho58, HS⟩
 exact by (
 refine wy_ (dT c183) (sr_ fun _ hK184 => ?_)
 refine v_ (fa_ underlying67) ?_
 refine v_ (lb_ (HS.mu 9 rfl) underlying22 rfl) ?_
 refine v_ (fa_ underlying67) ?_
 refine v_ (lb_ (HS.mu 9 rfl) underlying22 rfl) ?_
 refine ln_ underlying22 ?_
 refine b_ bin_sub64 ?_
 obtain ⟨⟨q185, q186⟩, H⟩ := if_some H
 exact by (
 obtain ⟨ad187, rfl⟩ := C_open (HS.getO 2 rfl) (by omega)
 refine v_ (ia_ underlying22 1 q185 q186) ?_
 refine v_ (Run.load rfl rfl underlying3 rfl (int_cell (HS.getO 2 rfl) (wrap64 ((x1.f0.length : Int) - 1)) q185 q186)) ?_
 refine ad_ hK184 ?_
 clear hK184
 refine sr_ fun _ hK188 => ?_
 refine mv_ ?_
 refine v_ (fa_ underlying58) ?_
 exact by (
 refine v_ (lb_ (HS.mu 10 rfl) underlying56 rfl) ?_
 refine mv_ ?_
 obtain ⟨⟨q189, q190⟩, H⟩ := if_some H
 obtain ⟨ad191, rfl⟩ := C_open (HS.getO 1 rfl) (by omega)
 refine v_ (ia_ underlying56 1 q189 q190) ?_
 obtain ⟨A192, c193, le194, HS⟩ := HS.slO 1 rfl (x1.f0.getD (wrap64 ((x1.f0.length : Int) - 1)).toNat 0) q189 q190
 refine v_ (Run.load rfl rfl underlying71 rfl (HS.getO 1 rfl)) ?_
 refine mv_ ?_
 exact by (
 obtain ⟨⟨q195, q196⟩, H⟩ := if_some H
 obtain ⟨A197, c198, he199, le200, hf201⟩ := slc_take k62 A192 c193 (x0.f1.getD (x1.f0.getD (wrap64 ((x1.f0.length : Int) - 1)).toNat 0).toNat []) (Int.tmod x1.f1 4) q195 q196 le194
 replace HS := HS.deriveO (p := (cF k62 A197 ((x0.f1.getD (x1.f0.getD (wrap64 ((x1.f0.length : Int) - 1)).toNat 0).toNat []).take (Int.tmod x1.f1 4).toNat))) (fun W_ hO_ hN_ => hf201 W_ hO_.1)
 refine v_ (Run.eqv he199 (Run.slH rfl underlying71 (by kernel_rfl) rfl rfl q195 (Int.le_trans q196 (Int.ofNat_le.mpr le194)))) ?_
 obtain ⟨t202, ha203, H⟩ := bind_some H
 refine c_ func113 (spec_l14CopyCells.runs k A197 c198 ((x0.f1.getD (x1.f0.getD (wrap64 ((x1.f0.length : Int) - 1)).toNat 0).toNat []).take (Int.tmod x1.f1 4).toNat) t202 _ (HS.getO 0 rfl) le200 ha203) ?_
 clear ha203
 rintro _ w204 ⟨v205, bl206, rfl, hO_, hb⟩
 exact by (
 replace HS := HS.got hb hO_
 dsimp only [List.cons_append, List.nil_append] at HS
 clear hO_
 obtain ⟨I207, bl208, HS⟩ := HS.unseal (sz := 2) rfl
 replace HS := HS.freezeN 1 (p := (rF k62 t202 I207)) rfl (fun _ hP_ _ => RepsB.reps hP_)
 dsimp only [List.eraseIdx] at HS
 refine ⟨_, rfl, ?_⟩
 clear hb
 exact by (
 obtain ⟨q209, H⟩ := if_some H
 obtain ⟨A215, c216, rfl⟩ := row_slice (HS.mu 0 rfl)
 obtain ⟨hl211, h212, hc214⟩ := row_all (dd := k62) (HS.mu 0 rfl) (HS.getN 0 rfl) (by decide)
 refine WL.appendL HS 1 rfl rfl rfl (by decide) rfl (.agg #[sn, sn]) 48 underlying71 (by kernel_rfl) rfl (by decide) (by decide) rfl rfl I207 hl211 hc214 h212 (by omega) ((([] : List S62) ++ t202).length) (by simp <;> omega) (fun v217 w218 I219 hI220 HS => ?_)
 dsimp only [List.set] at HS
 replace HS := HS.deriveN (p := (rF k62 (([] : List S62) ++ t202) I219)) (fun W_ hN_ => reps_more hI220 hN_.2.1 hN_.1)
 refine ad_ hK188 ?_
 clear hK188
 exact by (
 refine sr_ fun _ hK221 => ?_
 refine v_ (fa_ underlying58) ?_
 refine v_ (lb_ (HS.mu 11 rfl) underlying22 rfl) ?_
 refine mv_ ?_
 obtain ⟨⟨q222, q223⟩, H⟩ := if_some H
 obtain ⟨ad224, rfl⟩ := C_open (HS.getO 3 rfl) (by omega)
 refine v_ (ia_ underlying22 1 q222 q223) ?_
 refine v_ (Run.load rfl rfl underlying3 rfl (int_cell (HS.getO 3 rfl) (x1.f0.getD (wrap64 ((x1.f0.length : Int) - 1)).toNat 0) q222 q223)) ?_
 exact by (
 refine b_ bin_eql ?_
 refine dn_ hK221 ?_
 clear hK221
 rcases eti_ H with ⟨c225, H⟩ | ⟨c225, H⟩
 · refine wn_ (eF c225) (WC.skip ?_)
   obtain rfl := os H
   exact wv_ iq X65 ⟨(([] : List S62) ++ t202), v217, I219, t19.f1, (.slice A35 t19.f1.length c36), I28, rfl, Ho58, (St.pk (St.forget HS 0 rfl) [3, 4, 5, 6, 7] [0, 3, 4, 5] rfl rfl)⟩
 refine wy_ (eT c225) (WC.seq fun _ hK226 => ?_)
 exact by (
 refine WC.drawW HS [boxM b45 #[(.slice A48 t38.f0.length c49), vi t38.f1] 67, boxM b30 #[(.slice A33 t19.f0.length c34), (.slice A35 t19.f1.length c36)] 58, boxM b10 #[sn, vi 0] 67, boxM b8 #[sn, sn] 58, boxM b6 #[.slice A2_0 x2.f0.length c2_0, .slice A2_1 x2.f1.length c2_1] 62, boxM b4 #[.slice (some ad187) x1.f0.length c1_0, vi x1.f1] 67, boxM b2 #[.slice (some ad224) x0.f0.length c0_0, .slice (some ad191) x0.f1.length c0_1] 58] (fun _ HS => ⟨(HS.mu 2 rfl), (HS.mu 4 rfl), (HS.mu 7 rfl), (HS.mu 8 rfl), (HS.mu 9 rfl), (HS.mu 10 rfl), (HS.mu 11 rfl), trivial⟩) [9] rfl rfl (fun w227 HS => ?_)
 refine df_ 0 underlying58 ?_
 refine dm_ 2 ?_
 refine dm_ 3 ?_
 refine dt_ 1 ⟨HS.nowO, HS.nowN, ⟨(HS.mu 2 rfl), (HS.mu 4 rfl), (HS.mu 7 rfl), (HS.mu 8 rfl), (HS.mu 9 rfl), (HS.mu 10 rfl), (HS.mu 11 rfl), trivial⟩⟩ (fun w_ hw_ => Run.load rfl rfl underlying56 rfl (box_cell hw_.2.2.2.1 rfl)) ?_
 refine dt_ 4 ⟨HS.nowO, HS.nowN, ⟨(HS.mu 2 rfl), (HS.mu 4 rfl), (HS.mu 7 rfl), (HS.mu 8 rfl), (HS.mu 9 rfl), (HS.mu 10 rfl), (HS.mu 11 rfl), trivial⟩⟩ (fun w_ hw_ => Run.loadS (cs := [.slice A2_0 x2.f0.length c2_0, .slice A2_1 x2.f1.length c2_1]) rfl rfl underlying62 rfl (by kernel_rfl) (box_part hw_.2.2.2.2.2.2.1 part_all)) ?_
 obtain ⟨t228, ha229, H⟩ := bind_some H
 refine dc_ 5 (w_none rfl) func114 (spec_l14Copy.runs k (⟨x2.f0, x2.f1⟩ : S62) A2_0 c2_0 A2_1 c2_1 t228 _ (HS.getO 6 rfl) hc2_0 (HS.getO 7 rfl) hc2_1 ha229) ?_
 exact by (
 clear ha229
 rintro _ w230 ⟨v231, bl232, v233, bl234, rfl, hO_, hb⟩
 replace HS := HS.got hb hO_
 dsimp only [List.cons_append, List.nil_append] at HS
 clear hO_
 obtain ⟨I235, bl236, HS⟩ := HS.unseal (sz := 1) rfl
 replace HS := HS.freezeN 1 (p := (rF kS149 t228.f0 I235)) rfl (fun _ hP_ _ => RepsB.reps hP_)
 dsimp only [List.eraseIdx] at HS
 exact by (
 replace HS := HS.front 1 rfl
 dsimp only [List.eraseIdx] at HS
 obtain ⟨I237, bl238, HS⟩ := HS.unseal (sz := 1) rfl
 replace HS := HS.freezeN 1 (p := (rF kS149 t228.f1 I237)) rfl (fun _ hP_ _ => RepsB.reps hP_)
 dsimp only [List.eraseIdx] at HS
 refine ⟨⟨HS.nowO, HS.nowN.2.2, ⟨(HS.mu 4 rfl), (HS.mu 6 rfl), (HS.mu 9 rfl), (HS.mu 10 rfl), (HS.mu 11 rfl), (HS.mu 12 rfl), (HS.mu 13 rfl), trivial⟩⟩, _, rfl, ?_⟩
 clear hb
 obtain ⟨A239, c240, rfl⟩ := row_slice (HS.mu 1 rfl)
 exact by (
 have le241 := row_le (HS.mu 1 rfl)
 replace HS := HS.freezeN 1 (p := (cF kS149 A239 (t228.f0))) rfl (fun W_ hm_ h_ => row_C (by rfl) hm_ h_.2.1)
 dsimp only [List.eraseIdx] at HS
 obtain ⟨A242, c243, rfl⟩ := row_slice (HS.mu 0 rfl)
 have le244 := row_le (HS.mu 0 rfl)
 replace HS := HS.freezeN 0 (p := (cF kS149 A242 (t228.f1))) rfl (fun W_ hm_ h_ => row_C (by rfl) hm_ h_.2.1)
 dsimp only [List.eraseIdx] at HS
 have HS1 := HS.below (below_alloc (Below.refl _ _) (.cells #[.slice A239 t228.f0.length c240, .slice A242 t228.f1.length c243] 62))
 exact by (
 refine dv_ 6 (w_none rfl) (Run.lit1 (z := (.agg #[sn, sn])) (vs := [.slice A239 t228.f0.length c240, .slice A242 t228.f1.length c243]) rfl rfl rfl underlying71 (by kernel_rfl) (ble_ rfl) (ble_ rfl)) ⟨HS1.nowO, HS1.nowN.2.2.2.2, ⟨(HS1.mu 2 rfl), (HS1.mu 4 rfl), (HS1.mu 7 rfl), (HS1.mu 8 rfl), (HS1.mu 9 rfl), (HS1.mu 10 rfl), (HS1.mu 11 rfl), trivial⟩⟩ ?_
 obtain ⟨q245, H⟩ := if_some H
 refine WD.append 7 (w_none rfl) HS1 1 rfl rfl (.agg #[sn, sn]) 48 underlying71 (by kernel_rfl) rfl (by decide) (by decide) rfl rfl [.slice A239 t228.f0.length c240, .slice A242 t228.f1.length c243] rfl (lit_news _ _ _) (oneL rfl) (by omega) (((([] : List S62) ++ t202) ++ [t228]).length) (by simp) (fun v246 w247 I248 hI249 HS => ?_)
 dsimp only [List.set] at HS
 replace HS := HS.deriveN (p := (rF k62 ((([] : List S62) ++ t202) ++ [t228]) I248)) (fun W_ hN_ => reps_snoc hI249 hN_.2.2.2.2.1 (k62_mk _ t228 (le241) hN_.2.1 (le244) hN_.1))
 clear HS1
 refine ⟨⟨HS.nowO, HS.nowN.2.2.2.2.2, ⟨(HS.mu 2 rfl), (HS.mu 4 rfl), (HS.mu 7 rfl), (HS.mu 8 rfl), (HS.mu 9 rfl), (HS.mu 10 rfl), (HS.mu 11 rfl), trivial⟩⟩, ?_⟩
 obtain ⟨⟨q250, q251⟩, H⟩ := if_some H
 exact by (
 obtain ⟨ad252, rfl⟩ := row_open (HS.mu 5 rfl) (by omega)
 refine di_ 8 underlying56 1 q250 q251 ?_
 obtain ⟨A256, c257, rfl⟩ := row_slice (HS.mu 1 rfl)
 have le258 := row_le (HS.mu 1 rfl)
 replace HS := HS.freezeN 1 (p := (cF k62 A256 (((([] : List S62) ++ t202) ++ [t228])))) rfl (fun W_ hm_ h_ => row_C (by rfl) hm_ h_.1)
 dsimp only [List.eraseIdx] at HS
 have hk_ := mul_room q250 q251 1
 refine WD.putElL 9 HS 4 rfl rfl rfl rfl [.slice A256 (((([] : List S62) ++ t202) ++ [t228]).length) c257] rfl (oneL rfl) (by kernel_rfl) (by first | omega | (rw [List.length_nil]; omega) | (simp; omega)) (fun w253 I254 hI255 HS => ?_)
 exact by (
 dsimp only [List.set] at HS
 clear hk_
 replace HS := HS.deriveN (p := (rF kS62 (t19.f1.set (x1.f0.getD (wrap64 ((x1.f0.length : Int) - 1)).toNat 0).toNat ((([] : List S62) ++ t202) ++ [t228])) I254)) (fun W_ hN_ => reps_set hI255 hN_.2.2.2.2.2.2.2.2.2.2.1 (K_slice le258 hN_.1) (toNat_lt q250 q251))
 replace HS := HS.rowN 4 rfl (show t19.f1.length = (t19.f1.set (x1.f0.getD (wrap64 ((x1.f0.length : Int) - 1)).toNat 0).toNat ((([] : List S62) ++ t202) ++ [t228])).length from (List.length_set ..).symm)
 dsimp only [List.set] at HS
 generalize hv260 : (Value.slice (some ad252) t19.f1.length c36) = v259 at HS ⊢
 refine dd_ (via_ hK226 (sr_ fun _ hK261 => ?_))
 clear hK226
 exact by (
 refine v_ (fa_ underlying67) ?_
 refine v_ (lb_ (HS.mu 1 rfl) underlying3 rfl) ?_
 refine b_ bin_add64 ?_
 refine v_ (fa_ underlying67) ?_
 refine WL.store HS 1 rfl rfl rfl rfl rfl rfl rfl (by kernel_rfl) (ble_ rfl) (cs' := #[(.slice A48 t38.f0.length c49), vi (wrap64 (t38.f1 + 1))]) (by kernel_rfl) (fun w262 HS => ?_)
 dsimp only [List.set] at HS
 refine dn_ hK261 (WC.seq fun _ hK263 => ?_)
 clear hK261
 exact by (
 refine WC.drawW HS [boxM b45 #[(.slice A48 t38.f0.length c49), vi (wrap64 (t38.f1 + 1))] 67, boxM b30 #[(.slice A33 t19.f0.length c34), v259] 58, boxM b6 #[.slice A2_0 x2.f0.length c2_0, .slice A2_1 x2.f1.length c2_1] 62, boxM b4 #[.slice (some ad187) x1.f0.length c1_0, vi x1.f1] 67, boxM b2 #[.slice (some ad224) x0.f0.length c0_0, .slice (some ad191) x0.f1.length c0_1] 58] (fun _ HS => ⟨(HS.mu 1 rfl), (HS.mu 3 rfl), (HS.mu 8 rfl), (HS.mu 9 rfl), (HS.mu 10 rfl), trivial⟩) [] rfl rfl (fun w264 HS => ?_)
 obtain ⟨A265, c266, rfl⟩ := row_slice (HS.mu 4 rfl)
 refine dt_ 0 ⟨HS.nowO, HS.nowN, ⟨(HS.mu 1 rfl), (HS.mu 3 rfl), (HS.mu 8 rfl), (HS.mu 9 rfl), (HS.mu 10 rfl), trivial⟩⟩ (fun w_ hw_ => Run.loadS (cs := [(.slice A33 t19.f0.length c34), (.slice A265 ((t19.f1.set (x1.f0.getD (wrap64 ((x1.f0.length : Int) - 1)).toNat 0).toNat ((([] : List S62) ++ t202) ++ [t228])).length) c266)]) rfl rfl underlying58 rfl (by kernel_rfl) (box_part hw_.2.2.2.1 part_all)) ?_
 refine dt_ 1 ⟨HS.nowO, HS.nowN, ⟨(HS.mu 1 rfl), (HS.mu 3 rfl), (HS.mu 8 rfl), (HS.mu 9 rfl), (HS.mu 10 rfl), trivial⟩⟩ (fun w_ hw_ => Run.loadS (cs := [(.slice A48 t38.f0.length c49), vi (wrap64 (t38.f1 + 1))]) rfl rfl underlying67 rfl (by kernel_rfl) (box_part hw_.2.2.1 part_all)) ?_
 refine WD.storeS 2 HS 7 rfl rfl rfl rfl (oneL rfl) (by kernel_rfl) (ble_ rfl) (cs' := #[(.slice A33 t19.f0.length c34), (.slice A265 ((t19.f1.set (x1.f0.getD (wrap64 ((x1.f0.length : Int) - 1)).toNat 0).toNat ((([] : List S62) ++ t202) ++ [t228])).length) c266)]) (by kernel_rfl) (fun w267 HS => ?_)
 dsimp only [List.set] at HS
 refine ⟨⟨HS.nowO, HS.nowN, ⟨(HS.mu 1 rfl), (HS.mu 3 rfl), (HS.mu 8 rfl), (HS.mu 9 rfl), (HS.mu 10 rfl), trivial⟩⟩, ?_⟩
 refine WD.storeS 3 HS 6 rfl rfl rfl rfl (oneL rfl) (by kernel_rfl) (ble_ rfl) (cs' := #[(.slice A48 t38.f0.length c49), vi (wrap64 (t38.f1 + 1))]) (by kernel_rfl) (fun w268 HS => ?_)
 exact by (
 dsimp only [List.set] at HS
 refine ⟨⟨HS.nowO, HS.nowN, ⟨(HS.mu 1 rfl), (HS.mu 3 rfl), (HS.mu 8 rfl), (HS.mu 9 rfl), (HS.mu 10 rfl), trivial⟩⟩, ?_⟩
 refine dp_ 4 (fun _ => Run.assign rfl rfl) ?_
 refine dd_ (via_ hK263 (WC.ret ?_))
 clear hK263
 have le269 := row_le (HS.mu 5 rfl)
 replace HS := HS.freezeN 5 (p := (cF kI A33 (t19.f0))) rfl (fun W_ hm_ h_ => row_C (by rfl) hm_ h_.2.2.2.2.2.2.2.2.2.2.2.2.1)
 dsimp only [List.eraseIdx] at HS
 exact by (
 have le270 := row_le (HS.mu 4 rfl)
 replace HS := HS.freezeN 4 (p := (cF kS62 A265 ((t19.f1.set (x1.f0.getD (wrap64 ((x1.f0.length : Int) - 1)).toNat 0).toNat ((([] : List S62) ++ t202) ++ [t228]))))) rfl (fun W_ hm_ h_ => row_C (by rfl) hm_ h_.2.1)
 dsimp only [List.eraseIdx] at HS
 have le271 := row_le (HS.mu 2 rfl)
 replace HS := HS.freezeN 2 (p := (cF kI A48 (t38.f0))) rfl (fun W_ hm_ h_ => row_C (by rfl) hm_ h_.2.2.2.2.2.2.2.2.2.2.2.2.1)
 dsimp only [List.eraseIdx] at HS
 obtain rfl := os H
 rw [hG56] at Ho58
 exact by (
 replace H : some _ = some _ := Ho58
 obtain ⟨rfl, rfl, rfl⟩ := (by have h_ := os H; simp only [Prod.mk.injEq] at h_; exact h_)
 exact fin3 Try.f46 rfl ⟨_, rfl, resv_box (HS.mu 4 rfl) underlying58 rfl (by kernel_rfl)⟩ ⟨_, rfl, resv_box (HS.mu 3 rfl) underlying67 rfl (by kernel_rfl)⟩ rfl hR_ ⟨_, _, _, _, _, _, rfl, le269, (foot_fresh (HS.footN 2 rfl)), le270, (foot_fresh (HS.footN 1 rfl)), le271, (foot_fresh (HS.footN 0 rfl)), HS.b⟩ )))))))))))))))))))))))))))))))
def impl_cloneStore.b0 (x0 : S58) (rec_ : Int → (List (List S62)) → Option (Int × (List (List S62)))) (k39 : Nat) (i25 : Int) (xs26 : List (List S62)) : Option (Int × (List (List S62))) := (if i25 < (x0.f1.length : Int) then (if 0 ≤ i25 ∧ i25 < (x0.f1.length : Int) then ((impl_cloneCells.g k39 (x0.f1.getD i25.toNat [])).bind fun t54 => (if (xs26.length) < 4294967296 then (rec_ (wrap64 (i25 + 1)) (xs26 ++ [t54])) else none)) else none) else (some (i25, xs26)))
def impl_cloneStore.l0 (x0 : S58) : Nat → Int → (List (List S62)) → Option (Int × (List (List S62)))
 | 0, _, _ => none
 | k + 1, i25, xs26 => impl_cloneStore.b0 x0 (impl_cloneStore.l0 x0 k) k i25 xs26
def impl_cloneStore.g (k : Nat) (x0 : S58) : Option S58 := ((slices_Clone_int_int.g k x0.f0).bind fun t7 => ((impl_cloneStore.l0 x0 k 0 ([] : List (List S62))).bind (fun oc37 => (some (⟨t7, oc37.2⟩ : S58)))))
theorem impl_cloneStore.runs (k : Nat) (x0 : S58) (A0_0 : Option Addr) (c0_0 : Nat) (A0_1 : Option Addr) (c0_1 : Nat) (r : S58) (w : World) (hr0_0 : kI.C w A0_0 x0.f0.length x0.f0) (hc0_0 : x0.f0.length ≤ c0_0) (hr0_1 : kS62.C w A0_1 x0.f1.length x0.f1) (hc0_1 : x0.f1.length ≤ c0_1) (H : impl_cloneStore.g k x0 = some r) :
   Calls prog 105 #[.agg #[.slice A0_0 x0.f0.length c0_0, .slice A0_1 x0.f1.length c0_1]] w fun e w' => ∃ (v0_0_ : Value) (bl0_0_ : List Nat) (v0_1_ : Value) (bl0_1_ : List Nat), e = .returned (.agg #[v0_0_, v0_1_]) ∧ Owns w' w.heap.size [valM (Dk.slice 3 (Dk.int .i64)) r.f0 [v0_0_] bl0_0_, valM (Dk.slice 71 (Dk.slice 62 dq62)) r.f1 [v0_1_] bl0_1_] ∧ Below w.heap.size w w' := by
 unfold impl_cloneStore.g at H
 have HS : St (fun _ => True) w w [] [(cF kI A0_0 x0.f0), (cF kS62 A0_1 x0.f1)] [] := St.start (foot_cons (foot_C (Kd.heap_int _) hr0_0) (foot_cons (foot_C (Kd.heap_slice _ h62) hr0_1) foot_nil))
 refine cw_ (n := 26) func105 fun R_ hR_ => ?_
 refine sr_ fun _ hK1 => ?_
 refine bo_ HS (fun b2 w3 hb2 HS => ?_)
 refine WL.alloc HS (v := .agg #[sn, sn]) (cs := #[sn, sn]) rfl rfl (by decide) rfl (by kernel_rfl) rfl (fun b4 w5 hb4 HS => ?_)
 refine dn_ hK1 (sr_ fun _ hK6 => ?_)
 refine v_ (fa_ underlying58) ?_
 refine v_ (lb_ (HS.mu 1 rfl) underlying22 rfl) ?_
 obtain ⟨t7, ha8, H⟩ := bind_some H
 refine c_ func78 (slices_Clone_int_int.runs k A0_0 c0_0 x0.f0 t7 _ (HS.getO 0 rfl) hc0_0 ha8) ?_
 clear ha8
 rintro _ w9 ⟨v10, bl11, rfl, hO_, hb⟩
 replace HS := HS.got hb hO_
 dsimp only [List.cons_append, List.nil_append] at HS
 clear hO_
 obtain ⟨I12, bl13, HS⟩ := HS.unseal (sz := 1) rfl
 replace HS := HS.freezeN 1 (p := (rF kI t7 I12)) rfl (fun _ hP_ _ => RepsB.reps hP_)
 dsimp only [List.eraseIdx] at HS
 refine ⟨_, rfl, ?_⟩
 clear hb
 obtain ⟨A14, c15, rfl⟩ := row_slice (HS.mu 0 rfl)
 refine v_ (Run.build (cells := #[(.slice A14 t7.length c15), sn]) rfl [(0, (.slice A14 t7.length c15))] ⟨⟨rfl, rfl⟩, trivial⟩ (by kernel_rfl)) ?_
 refine WL.alloc HS (v := .agg #[sn, sn]) (cs := #[sn, sn]) rfl rfl (by decide) rfl (by kernel_rfl) rfl (fun b16 w17 hb16 HS => ?_)
 refine WL.storeW HS 0 rfl rfl rfl rfl rfl rfl (oneL rfl) (by kernel_rfl) rfl (fun w18 HS => ?_)
 dsimp only [List.set] at HS
 refine dn_ hK6 (WC.seq fun K19 hK19 => ?_)
 refine sr_ fun _ hK20 => ?_
 refine v_ (fa_ underlying58) ?_
 refine v_ (lb_ (HS.mu 3 rfl) underlying56 rfl) ?_
 refine ln_ underlying56 ?_
 refine mv_ ?_
 refine dn_ hK20 (WC.block ?_)
 replace HS := HS.rowNil 71 1
 replace HS := HS.els0 (Dk.slice 62 dq62)
 obtain ⟨G21, hG22, oc23, H, Ho24⟩ := open_G H
 let J30 := fun (i25 : Int) (xs26 : List (List S62)) v27 I28 bl29 (E_ : Env) (W_ : World) => E_ = [(2, .pointer (some ⟨b4, 0, none⟩)), (3, .pointer (some ⟨b16, 0, none⟩)), (11, .slice A0_1 x0.f1.length c0_1), (12, vi (x0.f1.length : Int)), (13, vi i25)] ∧ St (fun _ => True) w W_ [elsM (Dk.slice 62 dq62) xs26 I28 bl29, rowM w.heap.size 71 1 v27 xs26.length I28, boxM b16 #[(.slice A14 t7.length c15), v27] 58, rowM w.heap.size 3 1 (.slice A14 t7.length c15) t7.length I12, boxM b4 #[sn, sn] 58, boxM b2 #[.slice A0_0 x0.f0.length c0_0, .slice A0_1 x0.f1.length c0_1] 58] [(cF kI A0_0 x0.f0), (cF kS62 A0_1 x0.f1)] [(rF kI t7 I12)]
 have X31 : ∀ E_ W_, (∃ i25 xs26 v27 I28 bl29, G21 (i25, xs26) = some r ∧ J30 i25 xs26 v27 I28 bl29 E_ W_) → ∀ a, Fits a 26 E_ → K19 a W_ := by
   rintro E_ w32 ⟨i25, xs26, v27, I28, bl29, H, rfl, HS⟩
   rw [hG22] at H
   (try dsimp only at H)
   refine hK19 _ _ ?_
   refine sr_ fun _ hK33 => ?_
   obtain ⟨A34, c35, rfl⟩ := row_slice (HS.mu 1 rfl)
   refine v_ (ls_ (HS.mu 2 rfl) underlying58 part_all) ?_
   refine WL.storeW HS 4 rfl rfl rfl rfl rfl rfl (oneL rfl) (by kernel_rfl) rfl (fun w36 HS => ?_)
   dsimp only [List.set] at HS
   refine dn_ hK33 (WC.ret ?_)
   replace HS := HS.elsF (xs := t7) (inner := I12) (Dk.int .i64) (fun _ _ _ h_ => ⟨h_, rfl⟩) (fun _ => (HS.getN 0 rfl))
   replace HS := HS.front 4 rfl
   dsimp only [List.eraseIdx] at HS
   replace HS := HS.seal rfl rfl
   replace HS := HS.front 1 rfl
   dsimp only [List.eraseIdx] at HS
   replace HS := HS.front 2 rfl
   dsimp only [List.eraseIdx] at HS
   replace HS := HS.seal rfl rfl
   obtain rfl := os H
   exact fin1 Try.f105 rfl ⟨_, rfl, resv_box (HS.mu 3 rfl) underlying58 rfl (by kernel_rfl)⟩ hR_ ⟨_, _, _, _, rfl, (St.owns (St.front (St.front (St.forget (St.forget (St.forget HS 4 rfl) 3 rfl) 2 rfl) 0 rfl) 1 rfl)), HS.b⟩
 clear hK19
 refine WC.loop (fun k_ E_ W_ => ∃ i25 xs26 v27 I28 bl29, (∃ o_, impl_cloneStore.l0 x0 k_ i25 xs26 = some o_ ∧ G21 o_ = some r) ∧ J30 i25 xs26 v27 I28 bl29 E_ W_) k ⟨0, ([] : List (List S62)), (sn), ([]), ([]), ⟨_, H, Ho24⟩, rfl, HS⟩ (sb rfl) ?_
 rintro k_ E_ w38 ⟨i25, xs26, v27, I28, bl29, ⟨oc23, H, Ho24⟩, rfl, HS⟩
 rcases k_ with _ | k39
 · exact no_ H
 replace H : impl_cloneStore.b0 x0 (impl_cloneStore.l0 x0 k39) k39 i25 xs26 = some oc23 := H
 unfold impl_cloneStore.b0 at H
 refine sr_ fun _ hK40 => ?_
 refine b_ bin_lss ?_
 refine dn_ hK40 (WC.seq fun _ hK41 => ?_)
 rcases eti_ H with ⟨c42, H⟩ | ⟨c42, H⟩
 · refine wn_ (dF c42) (WC.exit ?_)
   obtain rfl := os H
   exact wv_ iq X31 ⟨i25, xs26, v27, I28, bl29, Ho24, rfl, HS⟩
 refine wy_ (dT c42) (WC.skip (via_ hK41 (WC.seq fun _ hK43 => ?_)))
 refine WC.block (sr_ fun _ hK44 => ?_)
 obtain ⟨⟨q45, q46⟩, H⟩ := if_some H
 obtain ⟨ad47, rfl⟩ := C_open (HS.getO 1 rfl) (by omega)
 refine v_ (ia_ underlying56 1 q45 q46) ?_
 obtain ⟨A48, c49, le50, HS⟩ := HS.slO 1 rfl i25 q45 q46
 refine v_ (Run.load rfl rfl underlying71 rfl (HS.getO 1 rfl)) ?_
 refine ad_ hK44 ?_
 refine WC.drawW HS [boxM b16 #[(.slice A14 t7.length c15), v27] 58, boxM b4 #[sn, sn] 58, boxM b2 #[.slice A0_0 x0.f0.length c0_0, .slice (some ad47) x0.f1.length c0_1] 58] (fun _ HS => ⟨(HS.mu 2 rfl), (HS.mu 4 rfl), (HS.mu 5 rfl), trivial⟩) [7] rfl rfl (fun w51 HS => ?_)
 refine df_ 0 underlying58 ?_
 refine dm_ 2 ?_
 obtain ⟨A52, c53, rfl⟩ := row_slice (HS.mu 1 rfl)
 refine dt_ 1 ⟨HS.nowO, HS.nowN, ⟨(HS.mu 2 rfl), (HS.mu 4 rfl), (HS.mu 5 rfl), trivial⟩⟩ (fun w_ hw_ => Run.load rfl rfl underlying56 rfl (box_cell hw_.2.2.1 rfl)) ?_
 obtain ⟨t54, ha55, H⟩ := bind_some H
 refine dc_ 3 (w_none rfl) func107 (impl_cloneCells.runs k39 A48 c49 (x0.f1.getD i25.toNat []) t54 _ (HS.getO 0 rfl) le50 ha55) ?_
 clear ha55
 rintro _ w56 ⟨v57, bl58, rfl, hO_, hb⟩
 replace HS := HS.got hb hO_
 dsimp only [List.cons_append, List.nil_append] at HS
 clear hO_
 obtain ⟨I59, bl60, HS⟩ := HS.unseal (sz := 2) rfl
 refine ⟨⟨HS.nowO, HS.nowN, ⟨(HS.mu 4 rfl), (HS.mu 6 rfl), (HS.mu 7 rfl), trivial⟩⟩, _, rfl, ?_⟩
 clear hb
 obtain ⟨A61, c62, rfl⟩ := row_slice (HS.mu 0 rfl)
 have HS1 := HS.below (below_alloc (Below.refl _ _) (.cells #[(.slice A61 t54.length c62)] 71))
 refine dv_ 4 (w_none rfl) (Run.lit1 (z := (sn)) (vs := [(.slice A61 t54.length c62)]) rfl rfl rfl underlying56 (by kernel_rfl) (ble_ rfl) (ble_ rfl)) ⟨HS1.nowO, HS1.nowN, ⟨(HS1.mu 4 rfl), (HS1.mu 6 rfl), (HS1.mu 7 rfl), trivial⟩⟩ ?_
 obtain ⟨q63, H⟩ := if_some H
 refine WD.append 5 (w_none rfl) HS1 3 rfl rfl (sn) 24 underlying56 (by kernel_rfl) rfl (by decide) (by decide) rfl rfl [(.slice A61 t54.length c62)] rfl (lit_news _ _ _) (oneL rfl) (by omega) ((xs26 ++ [t54]).length) (by simp) (fun v64 w65 I66 hI67 HS => ?_)
 dsimp only [List.set] at HS
 clear HS1
 replace HS := HS.front 1 rfl
 dsimp only [List.eraseIdx] at HS
 replace HS := HS.front 1 rfl
 dsimp only [List.eraseIdx] at HS
 replace HS := HS.seal rfl rfl
 replace HS := HS.front 1 rfl
 dsimp only [List.eraseIdx] at HS
 replace HS := HS.front 1 rfl
 dsimp only [List.eraseIdx] at HS
 replace HS := HS.elsSnoc hI67
 refine ⟨⟨HS.nowO, HS.nowN, ⟨(HS.mu 2 rfl), (HS.mu 4 rfl), (HS.mu 5 rfl), trivial⟩⟩, ?_⟩
 refine df_ 6 underlying58 ?_
 obtain ⟨A69, c70, rfl⟩ := row_slice (HS.mu 1 rfl)
 refine WD.storeL 7 HS 2 rfl rfl rfl rfl rfl (by kernel_rfl) (ble_ rfl) (cs' := #[(.slice A14 t7.length c15), (.slice A69 ((xs26 ++ [t54]).length) c70)]) (by kernel_rfl) (fun w68 HS => ?_)
 dsimp only [List.set] at HS
 refine dd_ (via_ hK43 (rg_ (b_ bin_add64 ?_)))
 refine mv_ ?_
 refine WL.done ?_
 exact wr_ k39 iq ⟨(wrap64 (i25 + 1)), (xs26 ++ [t54]), (.slice A69 ((xs26 ++ [t54]).length) c70), I66, (bl29 ++ (((.slice A61 t54.length c62) : Value).ownBlock.toList ++ bl60)), ⟨_, H, Ho24⟩, rfl, (St.pk HS [2, 3] [0] rfl rfl)⟩
def impl_cloneTable.g (k : Nat) (x0 : S67) : Option S67 := ((slices_Clone_int_int.g k x0.f0).bind fun t8 => (some (⟨t8, x0.f1⟩ : S67)))
theorem impl_cloneTable.runs (k : Nat) (x0 : S67) (A0_0 : Option Addr) (c0_0 : Nat) (r : S67) (w : World) (hr0_0 : kI.C w A0_0 x0.f0.length x0.f0) (hc0_0 : x0.f0.length ≤ c0_0) (H : impl_cloneTable.g k x0 = some r) :
   Calls prog 106 #[.agg #[.slice A0_0 x0.f0.length c0_0, vi x0.f1]] w fun e w' => ∃ (v0_0_ : Value) (bl0_0_ : List Nat), e = .returned (.agg #[v0_0_, vi r.f1]) ∧ Owns w' w.heap.size [valM (Dk.slice 3 (Dk.int .i64)) r.f0 [v0_0_] bl0_0_] ∧ Below w.heap.size w w' := by
 unfold impl_cloneTable.g at H
 have HS : St (fun _ => True) w w [] [(cF kI A0_0 x0.f0)] [] := St.start (foot_cons (foot_C (Kd.heap_int _) hr0_0) foot_nil)
 refine cw_ (n := 9) func106 fun R_ hR_ => ?_
 refine sr_ fun _ hK1 => ?_
 refine bo_ HS (fun b2 w3 hb2 HS => ?_)
 refine WL.alloc HS (v := .agg #[sn, vi 0]) (cs := #[sn, vi 0]) rfl rfl (by decide) rfl (by kernel_rfl) rfl (fun b4 w5 hb4 HS => ?_)
 refine dn_ hK1 (WC.seq fun _ hK6 => ?_)
 refine WC.drawW HS [boxM b4 #[sn, vi 0] 67, boxM b2 #[.slice A0_0 x0.f0.length c0_0, vi x0.f1] 67] (fun _ HS => ⟨(HS.mu 0 rfl), (HS.mu 1 rfl), trivial⟩) [6] rfl rfl (fun w7 HS => ?_)
 refine df_ 0 underlying67 ?_
 refine df_ 3 underlying67 ?_
 refine dt_ 1 ⟨HS.nowO, HS.nowN, ⟨(HS.mu 0 rfl), (HS.mu 1 rfl), trivial⟩⟩ (fun w_ hw_ => Run.load rfl rfl underlying22 rfl (box_cell hw_.2.2.2.1 rfl)) ?_
 refine dt_ 4 ⟨HS.nowO, HS.nowN, ⟨(HS.mu 0 rfl), (HS.mu 1 rfl), trivial⟩⟩ (fun w_ hw_ => Run.load rfl rfl underlying3 rfl (box_cell hw_.2.2.2.1 rfl)) ?_
 obtain ⟨t8, ha9, H⟩ := bind_some H
 refine dc_ 2 (w_none rfl) func78 (slices_Clone_int_int.runs k A0_0 c0_0 x0.f0 t8 _ (HS.getO 0 rfl) hc0_0 ha9) ?_
 clear ha9
 rintro _ w10 ⟨v11, bl12, rfl, hO_, hb⟩
 replace HS := HS.got hb hO_
 dsimp only [List.cons_append, List.nil_append] at HS
 clear hO_
 obtain ⟨I13, bl14, HS⟩ := HS.unseal (sz := 1) rfl
 replace HS := HS.freezeN 1 (p := (rF kI t8 I13)) rfl (fun _ hP_ _ => RepsB.reps hP_)
 dsimp only [List.eraseIdx] at HS
 refine ⟨⟨HS.nowO, HS.nowN.2, ⟨(HS.mu 1 rfl), (HS.mu 2 rfl), trivial⟩⟩, _, rfl, ?_⟩
 clear hb
 obtain ⟨A15, c16, rfl⟩ := row_slice (HS.mu 0 rfl)
 refine db_ 5 [(0, (.slice A15 t8.length c16)), (1, vi x0.f1)] (cells := #[(.slice A15 t8.length c16), vi x0.f1]) rfl rfl ⟨⟨rfl, rfl⟩, ⟨⟨rfl, rfl⟩, trivial⟩⟩ (by kernel_rfl) ?_
 refine WD.storeSL 6 HS 1 rfl rfl rfl rfl (oneL rfl) (by kernel_rfl) (ble_ rfl) (cs' := #[(.slice A15 t8.length c16), vi x0.f1]) (by kernel_rfl) (fun w17 HS => ?_)
 dsimp only [List.set] at HS
 refine dd_ (via_ hK6 (WC.ret ?_))
 replace HS := HS.elsF (xs := t8) (inner := I13) (Dk.int .i64) (fun _ _ _ h_ => ⟨h_, rfl⟩) (fun _ => (HS.getN 0 rfl))
 replace HS := HS.front 1 rfl
 dsimp only [List.eraseIdx] at HS
 replace HS := HS.seal rfl rfl
 obtain rfl := os H
 exact fin1 Try.f106 rfl ⟨_, rfl, resv_box (HS.mu 1 rfl) underlying67 rfl (by kernel_rfl)⟩ hR_ ⟨_, _, rfl, (St.owns (St.forget (St.forget HS 2 rfl) 1 rfl)), HS.b⟩
def impl_TakePage.g (k : Nat) (l0 : List Int) : Option ((List Int) × Int × Bool) := ((slices_Index_int_int.g k l0 0).bind fun t3 => ((impl_PoolOk.g k l0).bind fun t8 => (if t8 = true then (if t3 < 0 then (some ([], 0, false)) else ((slices_Clone_int_int.g k l0).bind fun t15 => (if 0 ≤ t3 ∧ t3 < ((t15.length : Nat) : Int) then (some ((t15.set t3.toNat 1), t3, true)) else none))) else (some ([], 0, false)))))
theorem impl_TakePage.runs (k : Nat) (A0 : Option Addr) (c0 : Nat) (l0 : List Int) (r1 : List Int) (r2 : Int) (r3 : Bool) (w : World) (hr0 : kI.C w A0 l0.length l0) (hc0 : l0.length ≤ c0) (H : impl_TakePage.g k l0 = some (r1, r2, r3)) :
   Calls prog 144 #[.slice A0 l0.length c0] w fun e w' => ∃ (v0_ : Value) (bl0_ : List Nat), e = .returned (.tuple #[v0_, vi r2, .bool r3]) ∧ Owns w' w.heap.size [valM (Dk.slice 3 (Dk.int .i64)) r1 [v0_] bl0_] ∧ Below w.heap.size w w' := by
 unfold impl_TakePage.g at H
 have HS : St (fun _ => True) w w [] [(cF kI A0 l0)] [] := St.start (foot_cons (foot_C (Kd.heap_int _) hr0) foot_nil)
 refine cw_ (n := 23) func144 fun R_ hR_ => ?_
 refine sr_ fun _ hK1 => ?_
 refine fast_ ?_
 refine via_ hK1 (sr_ fun _ hK2 => ?_)
 refine mv_ ?_
 obtain ⟨t3, ha4, H⟩ := bind_some H
 refine cs_ HS func161 (slices_Index_int_int.runs k A0 c0 l0 0 t3 _ (HS.getO 0 rfl) hc0 ha4) (fun w5 HS => ?_)
 clear ha4
 refine ad_ hK2 ?_
 refine WC.seq fun _ hK6 => ?_
 refine sr_ fun _ hK7 => ?_
 refine mv_ ?_
 obtain ⟨t8, ha9, H⟩ := bind_some H
 refine cs_ HS func117 (impl_PoolOk.runs k A0 c0 l0 t8 _ (HS.getO 0 rfl) hc0 ha9) (fun w10 HS => ?_)
 clear ha9
 refine nt_ ?_
 refine mv_ ?_
 rcases eti_ H with ⟨c11, H⟩ | ⟨c11, H⟩
 · refine off_ (c' := true) (nB (bF c11)) ?_
   refine off_ (c' := true) (nB (bF c11)) ?_
   refine v_ (Run.pickT rfl rfl (nB (bF c11)) rfl) ?_
   refine dn_ hK7 (wy_ rfl ?_)
   refine sr_ fun _ hK36 => ?_
   refine fast_ ?_
   refine via_ hK36 (WC.ret ?_)
   replace HS := HS.nilV (α := Int) 3 (Dk.int .i64)
   obtain ⟨rfl, rfl, rfl⟩ := (by have h_ := os H; simp only [Prod.mk.injEq] at h_; exact h_)
   exact fin3 Try.f144 rfl rfl rfl rfl hR_ ⟨_, _, rfl, (St.owns HS), HS.b⟩
 refine on_ (nB c11) (mv_ ?_)
 refine on_ (nB c11) (b_ bin_lss ?_)
 refine v_ (Run.pickF rfl rfl (nB c11) rfl) ?_
 refine dn_ hK7 ?_
 rcases ite_ H with ⟨c12, H⟩ | ⟨c12, H⟩
 · refine wy_ (dT c12) (sr_ fun _ hK13 => ?_)
   refine fast_ ?_
   refine via_ hK13 (WC.ret ?_)
   replace HS := HS.nilV (α := Int) 3 (Dk.int .i64)
   obtain ⟨rfl, rfl, rfl⟩ := (by have h_ := os H; simp only [Prod.mk.injEq] at h_; exact h_)
   exact fin3 Try.f144 rfl rfl rfl rfl hR_ ⟨_, _, rfl, (St.owns HS), HS.b⟩
 refine wn_ (dF c12) (WC.skip (via_ hK6 (sr_ fun _ hK14 => ?_)))
 refine mv_ ?_
 obtain ⟨t15, ha16, H⟩ := bind_some H
 refine c_ func78 (slices_Clone_int_int.runs k A0 c0 l0 t15 _ (HS.getO 0 rfl) hc0 ha16) ?_
 clear ha16
 rintro _ w17 ⟨v18, bl19, rfl, hO_, hb⟩
 replace HS := HS.got hb hO_
 dsimp only [List.cons_append, List.nil_append] at HS
 clear hO_
 obtain ⟨I20, bl21, HS⟩ := HS.unseal (sz := 1) rfl
 replace HS := HS.freezeN 1 (p := (rF kI t15 I20)) rfl (fun _ hP_ _ => RepsB.reps hP_)
 dsimp only [List.eraseIdx] at HS
 refine ⟨_, rfl, ?_⟩
 clear hb
 refine ad_ hK14 ?_
 refine sr_ fun _ hK22 => ?_
 refine mv_ ?_
 refine mv_ ?_
 obtain ⟨⟨q23, q24⟩, H⟩ := if_some H
 obtain ⟨A25, c26, rfl⟩ := row_slice (HS.mu 0 rfl)
 obtain ⟨ad27, rfl⟩ := row_open (HS.mu 0 rfl) (by omega)
 refine v_ (ia_ underlying22 1 q23 q24) ?_
 have hk_ := mul_room q23 q24 1
 refine WL.putEl HS 0 rfl rfl rfl rfl rfl rfl [vi 1] rfl (oneL rfl) (by kernel_rfl) (by first | omega | (rw [List.length_nil]; omega) | (simp; omega)) (fun w28 I29 hI30 HS => ?_)
 dsimp only [List.set] at HS
 clear hk_
 replace HS := HS.deriveN (p := (rF kI (t15.set t3.toNat 1) I29)) (fun W_ hN_ => reps_set hI30 hN_.1 (K_int _) (toNat_lt q23 q24))
 replace HS := HS.rowN 0 rfl (show t15.length = (t15.set t3.toNat 1).length from (List.length_set ..).symm)
 dsimp only [List.set] at HS
 generalize hv32 : (Value.slice (some ad27) t15.length c26) = v31 at HS ⊢
 refine dn_ hK22 (sr_ fun _ hK33 => ?_)
 refine fast_ ?_
 refine via_ hK33 (WC.ret ?_)
 obtain ⟨A34, c35, rfl⟩ := row_slice (HS.mu 0 rfl)
 replace HS := HS.elsF (xs := (t15.set t3.toNat 1)) (inner := I29) (Dk.int .i64) (fun _ _ _ h_ => ⟨h_, rfl⟩) (fun _ => (HS.getN 0 rfl))
 replace HS := HS.front 1 rfl
 dsimp only [List.eraseIdx] at HS
 replace HS := HS.seal rfl rfl
 obtain ⟨rfl, rfl, rfl⟩ := (by have h_ := os H; simp only [Prod.mk.injEq] at h_; exact h_)
 exact fin3 Try.f144 rfl rfl rfl rfl hR_ ⟨_, _, rfl, (St.owns HS), HS.b⟩
end Go.Proofs.Ytlpginalgdbopaa.PFnExactAddCell
