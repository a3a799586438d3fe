/- Functions that the statement reaches, as Lean functions, and the proof that a call of each comes to just its answer; written by this claim's own program. No conditions. -/
import Derived.Test.YtlpginalgdbopaaGFnExactAddCell2
namespace Go.Proofs.Ytlpginalgdbopaa.PFnExactAddCell
open Try
open Go.RowKit Go.Proofs.YtlpginalgdbopaaW.PrintWords Go.Proofs.YtlpginalgdbopaaW.PrintLast Go.Proofs.YtlpginalgdbopaaW.PrintMore Go.Proofs.Ytlpginalgdbopaa.XW Go.Proofs.Ytlpginalgdbopaa.XOp Go.Proofs.Ytlpginalgdbopaa.XSt Go.Proofs.Ytlpginalgdbopaa.XDraw
set_option linter.unusedVariables false
set_option linter.unusedSimpArgs false
set_option maxHeartbeats 4000000
set_option maxRecDepth 20000
def impl_AddCell.g (k : Nat) (x0 : S58) (x1 : S67) (x2 : S62) : Option (S58 × S67 × Bool) := ((impl_TableOk.g k (⟨x0.f0, x0.f1⟩ : S58) (⟨x1.f0, x1.f1⟩ : S67)).bind fun t14 => (if t14 = true then ((impl_cloneStore.g k (⟨x0.f0, x0.f1⟩ : S58)).bind fun t21 => ((impl_cloneTable.g k (⟨x1.f0, x1.f1⟩ : S67)).bind fun t32 => (((if (Int.tmod x1.f1 4) > 0 then (if 0 ≤ (wrap64 ((x1.f0.length : Int) - 1)) ∧ (wrap64 ((x1.f0.length : Int) - 1)) < (x1.f0.length : Int) then (if 0 ≤ (x1.f0.getD (wrap64 ((x1.f0.length : Int) - 1)).toNat 0) ∧ (x1.f0.getD (wrap64 ((x1.f0.length : Int) - 1)).toNat 0) < (x0.f1.length : Int) then (if 0 ≤ (Int.tmod x1.f1 4) ∧ (Int.tmod x1.f1 4) ≤ ((x0.f1.getD (x1.f0.getD (wrap64 ((x1.f0.length : Int) - 1)).toNat 0).toNat []).length : Int) then ((impl_cloneCells.g k ((x0.f1.getD (x1.f0.getD (wrap64 ((x1.f0.length : Int) - 1)).toNat 0).toNat []).take (Int.tmod x1.f1 4).toNat)).bind fun t478 => (if 0 ≤ (x1.f0.getD (wrap64 ((x1.f0.length : Int) - 1)).toNat 0) ∧ (x1.f0.getD (wrap64 ((x1.f0.length : Int) - 1)).toNat 0) < (x0.f0.length : Int) then (if (x0.f0.getD (x1.f0.getD (wrap64 ((x1.f0.length : Int) - 1)).toNat 0).toNat 0) = 1 then ((impl_cloneCell.g k (⟨x2.f0, x2.f1⟩ : S62)).bind fun t493 => (if (t478.length) < 4294967296 then (if 0 ≤ (x1.f0.getD (wrap64 ((x1.f0.length : Int) - 1)).toNat 0) ∧ (x1.f0.getD (wrap64 ((x1.f0.length : Int) - 1)).toNat 0) < ((t21.f1.length : Nat) : Int) then (some (Sum.inl ((⟨t21.f0, (t21.f1.set (x1.f0.getD (wrap64 ((x1.f0.length : Int) - 1)).toNat 0).toNat (t478 ++ [t493]))⟩ : S58), (⟨t32.f0, wrap64 (t32.f1 + 1)⟩ : S67), true))) else none) else none)) else (some (Sum.inr (t478, t21.f1)))) else none)) else none) else none) else none) else (some (Sum.inr (([] : List S62), t21.f1)))) : Option ((S58 × S67 × Bool) ⊕ ((List S62) × (List (List S62))))).bind (fun oc456 => match oc456 with | .inl r_ => some r_ | .inr ⟨xs298, xs302⟩ => ((impl_cloneCell.g k (⟨x2.f0, x2.f1⟩ : S62)).bind fun t309 => (if (xs298.length) < 4294967296 then ((impl_TakePage.g k t21.f0).bind fun t334 => (if t334.2.2 = true then (if 0 ≤ t334.2.1 ∧ t334.2.1 < ((xs302.length : Nat) : Int) then (((if (Int.tmod x1.f1 4) > 0 then (if 0 ≤ (wrap64 ((x1.f0.length : Int) - 1)) ∧ (wrap64 ((x1.f0.length : Int) - 1)) < (x1.f0.length : Int) then (if 0 ≤ (x1.f0.getD (wrap64 ((x1.f0.length : Int) - 1)).toNat 0) ∧ (x1.f0.getD (wrap64 ((x1.f0.length : Int) - 1)).toNat 0) < ((t334.1.length : Nat) : Int) then (if 0 ≤ (x1.f0.getD (wrap64 ((x1.f0.length : Int) - 1)).toNat 0) ∧ (x1.f0.getD (wrap64 ((x1.f0.length : Int) - 1)).toNat 0) < (((t334.1.set (x1.f0.getD (wrap64 ((x1.f0.length : Int) - 1)).toNat 0).toNat (wrap64 ((t334.1.getD (x1.f0.getD (wrap64 ((x1.f0.length : Int) - 1)).toNat 0).toNat 0) - 1))).length : Nat) : Int) then (if ((t334.1.set (x1.f0.getD (wrap64 ((x1.f0.length : Int) - 1)).toNat 0).toNat (wrap64 ((t334.1.getD (x1.f0.getD (wrap64 ((x1.f0.length : Int) - 1)).toNat 0).toNat 0) - 1))).getD (x1.f0.getD (wrap64 ((x1.f0.length : Int) - 1)).toNat 0).toNat 0) = 0 then (if 0 ≤ (x1.f0.getD (wrap64 ((x1.f0.length : Int) - 1)).toNat 0) ∧ (x1.f0.getD (wrap64 ((x1.f0.length : Int) - 1)).toNat 0) < (((xs302.set t334.2.1.toNat (xs298 ++ [t309])).length : Nat) : Int) then (if 0 ≤ (wrap64 ((x1.f0.length : Int) - 1)) ∧ (wrap64 ((x1.f0.length : Int) - 1)) < ((t32.f0.length : Nat) : Int) then (some ((t334.1.set (x1.f0.getD (wrap64 ((x1.f0.length : Int) - 1)).toNat 0).toNat (wrap64 ((t334.1.getD (x1.f0.getD (wrap64 ((x1.f0.length : Int) - 1)).toNat 0).toNat 0) - 1))), ((xs302.set t334.2.1.toNat (xs298 ++ [t309])).set (x1.f0.getD (wrap64 ((x1.f0.length : Int) - 1)).toNat 0).toNat ([])), (t32.f0.set (wrap64 ((x1.f0.length : Int) - 1)).toNat t334.2.1))) else none) else none) else (if 0 ≤ (wrap64 ((x1.f0.length : Int) - 1)) ∧ (wrap64 ((x1.f0.length : Int) - 1)) < ((t32.f0.length : Nat) : Int) then (some ((t334.1.set (x1.f0.getD (wrap64 ((x1.f0.length : Int) - 1)).toNat 0).toNat (wrap64 ((t334.1.getD (x1.f0.getD (wrap64 ((x1.f0.length : Int) - 1)).toNat 0).toNat 0) - 1))), (xs302.set t334.2.1.toNat (xs298 ++ [t309])), (t32.f0.set (wrap64 ((x1.f0.length : Int) - 1)).toNat t334.2.1))) else none)) else none) else none) else none) else (if (t32.f0.length) < 4294967296 then (some (t334.1, (xs302.set t334.2.1.toNat (xs298 ++ [t309])), (t32.f0 ++ [t334.2.1]))) else none)) : Option ((List Int) × (List (List S62)) × (List Int))).bind (fun oc390 => (some ((⟨oc390.1, oc390.2.1⟩ : S58), (⟨oc390.2.2, wrap64 (t32.f1 + 1)⟩ : S67), true)))) else none) else (some ((⟨[], []⟩ : S58), (⟨[], 0⟩ : S67), false)))) else none)))))) else (some ((⟨[], []⟩ : S58), (⟨[], 0⟩ : S67), false))))
theorem impl_AddCell.runs (k : Nat) (x0 : S58) (A0_0 : Option Addr) (c0_0 : Nat) (A0_1 : Option Addr) (c0_1 : Nat) (x1 : S67) (A1_0 : Option Addr) (c1_0 : Nat) (x2 : S62) (A2_0 : Option Addr) (c2_0 : Nat) (A2_1 : Option Addr) (c2_1 : Nat) (r1 : S58) (r2 : S67) (r3 : Bool) (w : World) (hr0_0 : kI.C w A0_0 x0.f0.length x0.f0) (hc0_0 : x0.f0.length ≤ c0_0) (hr0_1 : kS62.C w A0_1 x0.f1.length x0.f1) (hc0_1 : x0.f1.length ≤ c0_1) (hr1_0 : kI.C w A1_0 x1.f0.length x1.f0) (hc1_0 : x1.f0.length ≤ c1_0) (hr2_0 : kS149.C w A2_0 x2.f0.length x2.f0) (hc2_0 : x2.f0.length ≤ c2_0) (hr2_1 : kS149.C w A2_1 x2.f1.length x2.f1) (hc2_1 : x2.f1.length ≤ c2_1) (H : impl_AddCell.g k x0 x1 x2 = some (r1, r2, r3)) :
   Calls prog 45 #[.agg #[.slice A0_0 x0.f0.length c0_0, .slice A0_1 x0.f1.length c0_1], .agg #[.slice A1_0 x1.f0.length c1_0, vi x1.f1], .agg #[.slice A2_0 x2.f0.length c2_0, .slice A2_1 x2.f1.length c2_1]] w fun e w' => ∃ (v0_0_ : Value) (bl0_0_ : List Nat) (v0_1_ : Value) (bl0_1_ : List Nat) (v1_0_ : Value) (bl1_0_ : List Nat), e = .returned (.tuple #[.agg #[v0_0_, v0_1_], .agg #[v1_0_, vi r2.f1], .bool r3]) ∧ Owns w' w.heap.size [valM (Dk.slice 3 (Dk.int .i64)) r1.f0 [v0_0_] bl0_0_, valM (Dk.slice 71 (Dk.slice 62 dq62)) r1.f1 [v0_1_] bl0_1_, valM (Dk.slice 3 (Dk.int .i64)) r2.f0 [v1_0_] bl1_0_] ∧ Below w.heap.size w w' := by
 unfold impl_AddCell.g at H
 have HS : St (fun _ => True) w w [] [(cF kI A0_0 x0.f0), (cF kS62 A0_1 x0.f1), (cF kI A1_0 x1.f0), (cF kS149 A2_0 x2.f0), (cF kS149 A2_1 x2.f1)] [] := St.start (foot_cons (foot_C (Kd.heap_int _) hr0_0) (foot_cons (foot_C (Kd.heap_slice _ h62) hr0_1) (foot_cons (foot_C (Kd.heap_int _) hr1_0) (foot_cons (foot_C (Kd.heap_slice _ h149) hr2_0) (foot_cons (foot_C (Kd.heap_slice _ h149) hr2_1) foot_nil)))))
 refine cw_ (n := 109) func45 fun R_ hR_ => ?_
 refine sr_ fun _ hK1 => ?_
 refine bo_ HS (fun b2 w3 hb2 HS => ?_)
 refine bo_ HS (fun b4 w5 hb4 HS => ?_)
 refine bo_ HS (fun b6 w7 hb6 HS => ?_)
 refine WL.alloc HS (v := .agg #[sn, sn]) (cs := #[sn, sn]) rfl rfl (by decide) rfl (by kernel_rfl) rfl (fun b8 w9 hb8 HS => ?_)
 exact by (
 refine WL.alloc HS (v := .agg #[sn, vi 0]) (cs := #[sn, vi 0]) rfl rfl (by decide) rfl (by kernel_rfl) rfl (fun b10 w11 hb10 HS => ?_)
 refine ad_ hK1 ?_
 clear hK1
 refine WC.seq fun _ hK12 => ?_
 refine sr_ fun _ hK13 => ?_
 refine v_ (ls_ (HS.mu 4 rfl) underlying58 part_all) ?_
 refine v_ (ls_ (HS.mu 3 rfl) underlying67 part_all) ?_
 obtain ⟨t14, ha15, H⟩ := bind_some H
 exact by (
 refine cs_ HS func57 (impl_TableOk.runs k (⟨x0.f0, x0.f1⟩ : S58) A0_0 c0_0 A0_1 c0_1 (⟨x1.f0, x1.f1⟩ : S67) A1_0 c1_0 t14 _ (HS.getO 0 rfl) hc0_0 (HS.getO 1 rfl) hc0_1 (HS.getO 2 rfl) hc1_0 ha15) (fun w16 HS => ?_)
 clear ha15
 refine nt_ ?_
 refine dn_ hK13 ?_
 clear hK13
 rcases eti_ H with ⟨c17, H⟩ | ⟨c17, H⟩
 · refine wy_ (nB (bF c17)) (sr_ fun _ hK530 => ?_)
   refine v_ (Run.build (cells := #[sn, sn]) rfl [] trivial (by kernel_rfl)) ?_
   exact by (
   refine v_ (Run.build (cells := #[sn, vi 0]) rfl [] trivial (by kernel_rfl)) ?_
   refine WL.storeW HS 1 rfl rfl rfl rfl rfl rfl (oneL rfl) (by kernel_rfl) rfl (fun w531 HS => ?_)
   dsimp only [List.set] at HS
   refine WL.storeW HS 0 rfl rfl rfl rfl rfl rfl (oneL rfl) (by kernel_rfl) rfl (fun w532 HS => ?_)
   dsimp only [List.set] at HS
   refine ad_ hK530 ?_
   clear hK530
   refine WC.ret ?_
   exact by (
   replace HS := HS.nilV (α := Int) 3 (Dk.int .i64)
   replace HS := HS.nilV (α := List S62) 71 (Dk.slice 62 dq62)
   replace HS := HS.nilV (α := Int) 3 (Dk.int .i64)
   obtain ⟨rfl, rfl, rfl⟩ := (by have h_ := os H; simp only [Prod.mk.injEq] at h_; exact h_)
   exact fin3 Try.f45 rfl ⟨_, rfl, resv_box (HS.mu 4 rfl) underlying58 rfl (by kernel_rfl)⟩ ⟨_, rfl, resv_box (HS.mu 3 rfl) underlying67 rfl (by kernel_rfl)⟩ rfl hR_ ⟨_, _, _, _, _, _, rfl, (St.owns (St.front (St.front (St.front (St.forget (St.forget (St.forget (St.forget (St.forget HS 7 rfl) 6 rfl) 5 rfl) 4 rfl) 3 rfl) 0 rfl) 1 rfl) 2 rfl)), HS.b⟩ ))
 refine wn_ (nB c17) (WC.skip (via_ hK12 (WC.seq fun K18 hK18 => ?_)))
 clear hK12
 refine WC.drawW HS [boxM b10 #[sn, vi 0] 67, boxM b8 #[sn, sn] 58, boxM b6 #[.slice A2_0 x2.f0.length c2_0, .slice A2_1 x2.f1.length c2_1] 62, boxM b4 #[.slice A1_0 x1.f0.length c1_0, vi x1.f1] 67, boxM b2 #[.slice A0_0 x0.f0.length c0_0, .slice A0_1 x0.f1.length c0_1] 58] (fun _ HS => ⟨(HS.mu 0 rfl), (HS.mu 1 rfl), (HS.mu 2 rfl), (HS.mu 3 rfl), (HS.mu 4 rfl), trivial⟩) [7] rfl rfl (fun w19 HS => ?_)
 exact by (
 refine dt_ 0 ⟨HS.nowO, HS.nowN, ⟨(HS.mu 0 rfl), (HS.mu 1 rfl), (HS.mu 2 rfl), (HS.mu 3 rfl), (HS.mu 4 rfl), trivial⟩⟩ (fun w_ hw_ => Run.loadS (cs := [.slice A0_0 x0.f0.length c0_0, .slice A0_1 x0.f1.length c0_1]) rfl rfl underlying58 rfl (by kernel_rfl) (box_part hw_.2.2.2.2.2.2.1 part_all)) ?_
 refine dt_ 2 ⟨HS.nowO, HS.nowN, ⟨(HS.mu 0 rfl), (HS.mu 1 rfl), (HS.mu 2 rfl), (HS.mu 3 rfl), (HS.mu 4 rfl), trivial⟩⟩ (fun w_ hw_ => Run.loadS (cs := [.slice A1_0 x1.f0.length c1_0, vi x1.f1]) rfl rfl underlying67 rfl (by kernel_rfl) (box_part hw_.2.2.2.2.2.1 part_all)) ?_
 have X20 : ∀ E_ W_, (∃ (b39 : Nat) (b41 : Nat) (A44 : Option Addr) (t21 : S58) (c45 : Nat) (A46 : Option Addr) (c47 : Nat) (A49 : Option Addr) (t32 : S67) (c50 : Nat) (I37 : List Value) (I30 : List Value) (bl31 : List Nat) (I28 : List Value), E_ = [(0, .agg #[.slice A0_0 x0.f0.length c0_0, .slice A0_1 x0.f1.length c0_1]), (1, .agg #[.slice A1_0 x1.f0.length c1_0, vi x1.f1]), (2, .agg #[.slice A2_0 x2.f0.length c2_0, .slice A2_1 x2.f1.length c2_1]), (3, .pointer (some ⟨b2, 0, none⟩)), (4, .pointer (some ⟨b4, 0, none⟩)), (5, .pointer (some ⟨b6, 0, none⟩)), (6, .pointer (some ⟨b8, 0, none⟩)), (7, .pointer (some ⟨b10, 0, none⟩)), (8, .bool false), (9, .pointer (some ⟨b39, 0, none⟩)), (10, .pointer (some ⟨b41, 0, none⟩)), (17, .agg #[.slice A0_0 x0.f0.length c0_0, .slice A0_1 x0.f1.length c0_1]), (18, .agg #[.slice A1_0 x1.f0.length c1_0, vi x1.f1]), (19, .bool t14), (20, .bool (!t14)), (23, .agg #[.slice A0_0 x0.f0.length c0_0, .slice A0_1 x0.f1.length c0_1]), (24, .agg #[(.slice A44 t21.f0.length c45), (.slice A46 t21.f1.length c47)]), (25, .agg #[.slice A1_0 x1.f0.length c1_0, vi x1.f1]), (26, .agg #[(.slice A49 t32.f0.length c50), vi t32.f1])] ∧ (((if (Int.tmod x1.f1 4) > 0 then (if 0 ≤ (wrap64 ((x1.f0.length : Int) - 1)) ∧ (wrap64 ((x1.f0.length : Int) - 1)) < (x1.f0.length : Int) then (if 0 ≤ (x1.f0.getD (wrap64 ((x1.f0.length : Int) - 1)).toNat 0) ∧ (x1.f0.getD (wrap64 ((x1.f0.length : Int) - 1)).toNat 0) < (x0.f1.length : Int) then (if 0 ≤ (Int.tmod x1.f1 4) ∧ (Int.tmod x1.f1 4) ≤ ((x0.f1.getD (x1.f0.getD (wrap64 ((x1.f0.length : Int) - 1)).toNat 0).toNat []).length : Int) then ((impl_cloneCells.g k ((x0.f1.getD (x1.f0.getD (wrap64 ((x1.f0.length : Int) - 1)).toNat 0).toNat []).take (Int.tmod x1.f1 4).toNat)).bind fun t478 => (if 0 ≤ (x1.f0.getD (wrap64 ((x1.f0.length : Int) - 1)).toNat 0) ∧ (x1.f0.getD (wrap64 ((x1.f0.length : Int) - 1)).toNat 0) < (x0.f0.length : Int) then (if (x0.f0.getD (x1.f0.getD (wrap64 ((x1.f0.length : Int) - 1)).toNat 0).toNat 0) = 1 then ((impl_cloneCell.g k (⟨x2.f0, x2.f1⟩ : S62)).bind fun t493 => (if (t478.length) < 4294967296 then (if 0 ≤ (x1.f0.getD (wrap64 ((x1.f0.length : Int) - 1)).toNat 0) ∧ (x1.f0.getD (wrap64 ((x1.f0.length : Int) - 1)).toNat 0) < ((t21.f1.length : Nat) : Int) then (some (Sum.inl ((⟨t21.f0, (t21.f1.set (x1.f0.getD (wrap64 ((x1.f0.length : Int) - 1)).toNat 0).toNat (t478 ++ [t493]))⟩ : S58), (⟨t32.f0, wrap64 (t32.f1 + 1)⟩ : S67), true))) else none) else none)) else (some (Sum.inr (t478, t21.f1)))) else none)) else none) else none) else none) else (some (Sum.inr (([] : List S62), t21.f1)))) : Option ((S58 × S67 × Bool) ⊕ ((List S62) × (List (List S62))))).bind (fun oc456 => match oc456 with | .inl r_ => some r_ | .inr ⟨xs298, xs302⟩ => ((impl_cloneCell.g k (⟨x2.f0, x2.f1⟩ : S62)).bind fun t309 => (if (xs298.length) < 4294967296 then ((impl_TakePage.g k t21.f0).bind fun t334 => (if t334.2.2 = true then (if 0 ≤ t334.2.1 ∧ t334.2.1 < ((xs302.length : Nat) : Int) then (((if (Int.tmod x1.f1 4) > 0 then (if 0 ≤ (wrap64 ((x1.f0.length : Int) - 1)) ∧ (wrap64 ((x1.f0.length : Int) - 1)) < (x1.f0.length : Int) then (if 0 ≤ (x1.f0.getD (wrap64 ((x1.f0.length : Int) - 1)).toNat 0) ∧ (x1.f0.getD (wrap64 ((x1.f0.length : Int) - 1)).toNat 0) < ((t334.1.length : Nat) : Int) then (if 0 ≤ (x1.f0.getD (wrap64 ((x1.f0.length : Int) - 1)).toNat 0) ∧ (x1.f0.getD (wrap64 ((x1.f0.length : Int) - 1)).toNat 0) < (((t334.1.set (x1.f0.getD (wrap64 ((x1.f0.length : Int) - 1)).toNat 0).toNat (wrap64 ((t334.1.getD (x1.f0.getD (wrap64 ((x1.f0.length : Int) - 1)).toNat 0).toNat 0) - 1))).length : Nat) : Int) then (if ((t334.1.set (x1.f0.getD (wrap64 ((x1.f0.length : Int) - 1)).toNat 0).toNat (wrap64 ((t334.1.getD (x1.f0.getD (wrap64 ((x1.f0.length : Int) - 1)).toNat 0).toNat 0) - 1))).getD (x1.f0.getD (wrap64 ((x1.f0.length : Int) - 1)).toNat 0).toNat 0) = 0 then (if 0 ≤ (x1.f0.getD (wrap64 ((x1.f0.length : Int) - 1)).toNat 0) ∧ (x1.f0.getD (wrap64 ((x1.f0.length : Int) - 1)).toNat 0) < (((xs302.set t334.2.1.toNat (xs298 ++ [t309])).length : Nat) : Int) then (if 0 ≤ (wrap64 ((x1.f0.length : Int) - 1)) ∧ (wrap64 ((x1.f0.length : Int) - 1)) < ((t32.f0.length : Nat) : Int) then (some ((t334.1.set (x1.f0.getD (wrap64 ((x1.f0.length : Int) - 1)).toNat 0).toNat (wrap64 ((t334.1.getD (x1.f0.getD (wrap64 ((x1.f0.length : Int) - 1)).toNat 0).toNat 0) - 1))), ((xs302.set t334.2.1.toNat (xs298 ++ [t309])).set (x1.f0.getD (wrap64 ((x1.f0.length : Int) - 1)).toNat 0).toNat ([])), (t32.f0.set (wrap64 ((x1.f0.length : Int) - 1)).toNat t334.2.1))) else none) else none) else (if 0 ≤ (wrap64 ((x1.f0.length : Int) - 1)) ∧ (wrap64 ((x1.f0.length : Int) - 1)) < ((t32.f0.length : Nat) : Int) then (some ((t334.1.set (x1.f0.getD (wrap64 ((x1.f0.length : Int) - 1)).toNat 0).toNat (wrap64 ((t334.1.getD (x1.f0.getD (wrap64 ((x1.f0.length : Int) - 1)).toNat 0).toNat 0) - 1))), (xs302.set t334.2.1.toNat (xs298 ++ [t309])), (t32.f0.set (wrap64 ((x1.f0.length : Int) - 1)).toNat t334.2.1))) else none)) else none) else none) else none) else (if (t32.f0.length) < 4294967296 then (some (t334.1, (xs302.set t334.2.1.toNat (xs298 ++ [t309])), (t32.f0 ++ [t334.2.1]))) else none)) : Option ((List Int) × (List (List S62)) × (List Int))).bind (fun oc390 => (some ((⟨oc390.1, oc390.2.1⟩ : S58), (⟨oc390.2.2, wrap64 (t32.f1 + 1)⟩ : S67), true)))) else none) else (some ((⟨[], []⟩ : S58), (⟨[], 0⟩ : S67), false)))) else none)))) = some (r1, r2, r3) ∧ St (fun _ => True) w W_ [boxM b41 #[(.slice A49 t32.f0.length c50), vi t32.f1] 67, boxM b39 #[(.slice A44 t21.f0.length c45), (.slice A46 t21.f1.length c47)] 58, rowM w.heap.size 3 1 (.slice A49 t32.f0.length c50) t32.f0.length I37, rowM w.heap.size 71 1 (.slice A46 t21.f1.length c47) t21.f1.length I30, elsM (Dk.slice 62 dq62) t21.f1 I30 bl31, rowM w.heap.size 3 1 (.slice A44 t21.f0.length c45) t21.f0.length I28, boxM b10 #[sn, vi 0] 67, boxM b8 #[sn, sn] 58, boxM b6 #[.slice A2_0 x2.f0.length c2_0, .slice A2_1 x2.f1.length c2_1] 62, boxM b4 #[.slice A1_0 x1.f0.length c1_0, vi x1.f1] 67, boxM b2 #[.slice A0_0 x0.f0.length c0_0, .slice A0_1 x0.f1.length c0_1] 58] [(cF kI A0_0 x0.f0), (cF kS62 A0_1 x0.f1), (cF kI A1_0 x1.f0), (cF kS149 A2_0 x2.f0), (cF kS149 A2_1 x2.f1)] [(rF kI t32.f0 I37), (rF kI t21.f0 I28)]) → ∀ a, Fits a 109 E_ → K18 a W_ := by
   rintro E_ w285 ⟨b39, b41, A44, t21, c45, A46, c47, A49, t32, c50, I37, I30, bl31, I28, rfl, H, HS⟩
   refine hK18 _ _ ?_
   clear hK18
   refine sr_ fun _ hK286 => ?_
   refine v_ (fa_ underlying67) ?_
   exact by (
   refine v_ (lb_ (HS.mu 0 rfl) underlying3 rfl) ?_
   refine b_ bin_add64 ?_
   refine v_ (fa_ underlying67) ?_
   refine WL.store HS 0 rfl rfl rfl rfl rfl rfl rfl (by kernel_rfl) (ble_ rfl) (cs' := #[(.slice A49 t32.f0.length c50), vi (wrap64 (t32.f1 + 1))]) (by kernel_rfl) (fun w287 HS => ?_)
   dsimp only [List.set] at HS
   refine dn_ hK286 (sr_ fun _ hK288 => ?_)
   clear hK286
   refine WL.lit0 HS rfl rfl (by decide) rfl underlying71 (sz := 2) (by kernel_rfl) (fun v289 w290 HS => ?_)
   exact by (
   replace HS := HS.els0 (dq62)
   refine ad_ hK288 ?_
   clear hK288
   refine sr_ fun _ hK291 => ?_
   refine ad_ hK291 ?_
   clear hK291
   refine sr_ fun _ hK292 => ?_
   refine v_ (fa_ underlying67) ?_
   exact by (
   refine v_ (lb_ (HS.mu 11 rfl) underlying22 rfl) ?_
   refine ln_ underlying22 ?_
   refine b_ bin_sub64 ?_
   refine ad_ hK292 ?_
   clear hK292
   refine WC.seq fun K293 hK293 => ?_
   obtain ⟨G294, hG295, oc296, H, Ho297⟩ := open_G H
   have X306 : ∀ E_ W_, (∃ (xs298 : List S62) (v299 : Value) (I300 : List Value) (bl301 : List Nat) (xs302 : List (List S62)) (v303 : Value) (I304 : List Value) (bl305 : List Nat), E_ = [(4, .pointer (some ⟨b4, 0, none⟩)), (5, .pointer (some ⟨b6, 0, none⟩)), (6, .pointer (some ⟨b8, 0, none⟩)), (7, .pointer (some ⟨b10, 0, none⟩)), (9, .pointer (some ⟨b39, 0, none⟩)), (10, .pointer (some ⟨b41, 0, none⟩)), (11, v299), (13, vi (wrap64 ((x1.f0.length : Int) - 1)))] ∧ G294 (Sum.inr (xs298, xs302)) = some (r1, r2, r3) ∧ St (fun _ => True) w W_ [elsM dq62 xs298 I300 bl301, rowM w.heap.size 62 2 v299 xs298.length I300, boxM b41 #[(.slice A49 t32.f0.length c50), vi (wrap64 (t32.f1 + 1))] 67, boxM b39 #[(.slice A44 t21.f0.length c45), v303] 58, rowM w.heap.size 3 1 (.slice A49 t32.f0.length c50) t32.f0.length I37, rowM w.heap.size 71 1 v303 xs302.length I304, elsM (Dk.slice 62 dq62) xs302 I304 bl305, rowM w.heap.size 3 1 (.slice A44 t21.f0.length c45) t21.f0.length I28, boxM b10 #[sn, vi 0] 67, boxM b8 #[sn, sn] 58, boxM b6 #[.slice A2_0 x2.f0.length c2_0, .slice A2_1 x2.f1.length c2_1] 62, boxM b4 #[.slice A1_0 x1.f0.length c1_0, vi x1.f1] 67, boxM b2 #[.slice A0_0 x0.f0.length c0_0, .slice A0_1 x0.f1.length c0_1] 58] [(cF kI A0_0 x0.f0), (cF kS62 A0_1 x0.f1), (cF kI A1_0 x1.f0), (cF kS149 A2_0 x2.f0), (cF kS149 A2_1 x2.f1)] [(rF kI t32.f0 I37), (rF kI t21.f0 I28)]) → ∀ a, Fits a 109 E_ → K293 a W_ := by
     exact by (
     rintro E_ w307 ⟨xs298, v299, I300, bl301, xs302, v303, I304, bl305, rfl, H, HS⟩
     rw [hG295] at H
     (try dsimp only at H)
     refine hK293 _ _ ?_
     clear hK293
     refine sr_ fun _ hK308 => ?_
     refine mv_ ?_
     refine v_ (ls_ (HS.mu 10 rfl) underlying62 part_all) ?_
     exact by (
     obtain ⟨t309, ha310, H⟩ := bind_some H
     refine c_ func108 (impl_cloneCell.runs k (⟨x2.f0, x2.f1⟩ : S62) A2_0 c2_0 A2_1 c2_1 t309 _ (HS.getO 3 rfl) hc2_0 (HS.getO 4 rfl) hc2_1 ha310) ?_
     clear ha310
     rintro _ w311 ⟨v312, bl313, v314, bl315, rfl, hO_, hb⟩
     replace HS := HS.got hb hO_
     dsimp only [List.cons_append, List.nil_append] at HS
     clear hO_
     obtain ⟨I316, bl317, HS⟩ := HS.unseal (sz := 1) rfl
     exact by (
     replace HS := HS.front 2 rfl
     dsimp only [List.eraseIdx] at HS
     obtain ⟨I318, bl319, HS⟩ := HS.unseal (sz := 1) rfl
     refine ⟨_, rfl, ?_⟩
     clear hb
     obtain ⟨A320, c321, rfl⟩ := row_slice (HS.mu 2 rfl)
     obtain ⟨A322, c323, rfl⟩ := row_slice (HS.mu 0 rfl)
     refine WL.val rfl rfl (by decide) (Run.lit1 (z := (.agg #[sn, sn])) (vs := [(.slice A320 t309.f0.length c321), (.slice A322 t309.f1.length c323)]) rfl rfl rfl underlying71 (by kernel_rfl) (ble_ rfl) (ble_ rfl)) ?_
     exact by (
     have HS1 := HS.below (below_alloc (Below.refl _ _) (.cells #[(.slice A320 t309.f0.length c321), (.slice A322 t309.f1.length c323)] 62))
     obtain ⟨q324, H⟩ := if_some H
     refine WL.append HS1 5 rfl rfl rfl (by decide) rfl (.agg #[sn, sn]) 48 underlying71 (by kernel_rfl) rfl (by decide) (by decide) rfl rfl [(.slice A320 t309.f0.length c321), (.slice A322 t309.f1.length c323)] rfl (lit_news _ _ _) (oneL rfl) (by omega) ((xs298 ++ [t309]).length) (by simp) (fun v325 w326 I327 hI328 HS => ?_)
     dsimp only [List.set] at HS
     clear HS1
     replace HS := HS.front 3 rfl
     dsimp only [List.eraseIdx] at HS
     replace HS := HS.front 3 rfl
     exact by (
     dsimp only [List.eraseIdx] at HS
     replace HS := HS.seal rfl rfl
     replace HS := HS.front 2 rfl
     dsimp only [List.eraseIdx] at HS
     replace HS := HS.front 2 rfl
     dsimp only [List.eraseIdx] at HS
     replace HS := HS.seal rfl rfl
     replace HS := HS.front 1 rfl
     exact by (
     dsimp only [List.eraseIdx] at HS
     replace HS := HS.both
     replace HS := HS.put0 (valM dq62 t309 ([(.slice A320 t309.f0.length c321), (.slice A322 t309.f1.length c323)]) ((((.slice A320 t309.f0.length c321) : Value).ownBlock.toList ++ bl317) ++ (((.slice A322 t309.f1.length c323) : Value).ownBlock.toList ++ bl319))) (fun hP_ => foot_val (dq62_mk _ t309 hP_.1 hP_.2)) (fun h_ => h_) (fun _ h_ => h_)
     replace HS := HS.front 1 rfl
     dsimp only [List.eraseIdx] at HS
     replace HS := HS.front 1 rfl
     dsimp only [List.eraseIdx] at HS
     replace HS := HS.elsSnoc hI328
     exact by (
     obtain ⟨A330, c331, rfl⟩ := row_slice (HS.mu 1 rfl)
     refine ci_ (args := [.pointer (some ⟨b39, 0, none⟩), (.slice A330 ((xs298 ++ [t309]).length) c331)]) func109 ?_
     refine cw_ (n := 32) func109 fun _ hR329 => ?_
     refine sr_ fun _ hK332 => ?_
     refine as_ ?_
     refine ad_ hK332 ?_
     clear hK332
     refine sr_ fun _ hK333 => ?_
     exact by (
     refine mv_ ?_
     refine v_ (Run.nilCheck rfl rfl) ?_
     refine v_ (fa_ underlying58) ?_
     refine v_ (lb_ (HS.mu 3 rfl) underlying22 rfl) ?_
     obtain ⟨t334, ha335, H⟩ := bind_some H
     refine c_ func144 (impl_TakePage.runs k A44 c45 t21.f0 t334.1 t334.2.1 t334.2.2 _ (row_C rfl (HS.mu 7 rfl) (HS.getN 1 rfl)) (row_le (HS.mu 7 rfl)) ha335) ?_
     clear ha335
     rintro _ w336 ⟨v337, bl338, rfl, hO_, hb⟩
     exact by (
     replace HS := HS.got hb hO_
     dsimp only [List.cons_append, List.nil_append] at HS
     clear hO_
     obtain ⟨I339, bl340, HS⟩ := HS.unseal (sz := 1) rfl
     replace HS := HS.freezeN 1 (p := (rF kI t334.1 I339)) rfl (fun _ hP_ _ => RepsB.reps hP_)
     dsimp only [List.eraseIdx] at HS
     refine ⟨_, rfl, ?_⟩
     clear hb
     exact by (
     refine mv_ ?_
     refine v_ (Run.extract rfl rfl rfl) ?_
     refine v_ (Run.extract rfl rfl rfl) ?_
     refine v_ (Run.extract rfl rfl rfl) ?_
     refine fast_ ?_
     refine via_ hK333 (WC.seq fun _ hK341 => ?_)
     clear hK333
     refine sr_ fun _ hK342 => ?_
     exact by (
     refine mv_ ?_
     refine nt_ ?_
     refine dn_ hK342 ?_
     clear hK342
     rcases eti_ H with ⟨c343, H⟩ | ⟨c343, H⟩
     · refine wy_ (nB (bF c343)) (sr_ fun _ hK450 => ?_)
       refine as_ ?_
       refine ad_ hK450 ?_
       exact by (
       clear hK450
       refine WC.ret ?_
       refine fin2 Try.f109 rfl rfl rfl hR329 ⟨_, rfl, ?_⟩
       refine mv_ ?_
       refine v_ (Run.extract rfl rfl rfl) ?_
       refine v_ (Run.extract rfl rfl rfl) ?_
       refine as_ ?_
       refine ad_ hK308 ?_
       exact by (
       clear hK308
       refine WC.seq fun _ hK451 => ?_
       refine sr_ fun _ hK452 => ?_
       refine mv_ ?_
       refine nt_ ?_
       refine dn_ hK452 (wy_ rfl ?_)
       clear hK452
       refine sr_ fun _ hK453 => ?_
       exact by (
       refine v_ (Run.build (cells := #[sn, sn]) rfl [] trivial (by kernel_rfl)) ?_
       refine v_ (Run.build (cells := #[sn, vi 0]) rfl [] trivial (by kernel_rfl)) ?_
       refine WL.storeW HS 10 rfl rfl rfl rfl rfl rfl (oneL rfl) (by kernel_rfl) rfl (fun w454 HS => ?_)
       dsimp only [List.set] at HS
       refine WL.storeW HS 9 rfl rfl rfl rfl rfl rfl (oneL rfl) (by kernel_rfl) rfl (fun w455 HS => ?_)
       dsimp only [List.set] at HS
       refine ad_ hK453 ?_
       clear hK453
       exact by (
       refine WC.ret ?_
       replace HS := HS.nilV (α := Int) 3 (Dk.int .i64)
       replace HS := HS.nilV (α := List S62) 71 (Dk.slice 62 dq62)
       replace HS := HS.nilV (α := Int) 3 (Dk.int .i64)
       obtain ⟨rfl, rfl, rfl⟩ := (by have h_ := os H; simp only [Prod.mk.injEq] at h_; exact h_)
       exact fin3 Try.f45 rfl ⟨_, rfl, resv_box (HS.mu 13 rfl) underlying58 rfl (by kernel_rfl)⟩ ⟨_, rfl, resv_box (HS.mu 12 rfl) underlying67 rfl (by kernel_rfl)⟩ rfl hR_ ⟨_, _, _, _, _, _, rfl, (St.owns (St.front (St.front (St.front (St.forget (St.forget (St.forget (St.forget (St.forget (St.forget (St.forget (St.forget (St.forget (St.forget (St.forget (St.forget (St.forget (St.forget HS 16 rfl) 15 rfl) 14 rfl) 13 rfl) 12 rfl) 11 rfl) 10 rfl) 9 rfl) 8 rfl) 7 rfl) 6 rfl) 5 rfl) 4 rfl) 3 rfl) 0 rfl) 1 rfl) 2 rfl)), HS.b⟩ ))))
     refine wn_ (nB c343) (WC.skip (via_ hK341 (sr_ fun _ hK344 => ?_)))
     clear hK341
     exact by (
     refine mv_ ?_
     refine mv_ ?_
     refine v_ (Run.nilCheck rfl rfl) ?_
     refine v_ (fa_ underlying58) ?_
     obtain ⟨A346, c347, rfl⟩ := row_slice (HS.mu 0 rfl)
     refine WL.store HS 4 rfl rfl rfl rfl rfl rfl rfl (by kernel_rfl) (ble_ rfl) (cs' := #[(.slice A346 t334.1.length c347), v303]) (by kernel_rfl) (fun w345 HS => ?_)
     dsimp only [List.set] at HS
     refine dn_ hK344 (sr_ fun _ hK348 => ?_)
     exact by (
     clear hK344
     refine mv_ ?_
     refine v_ (Run.nilCheck rfl rfl) ?_
     refine v_ (fa_ underlying58) ?_
     obtain ⟨A349, c350, rfl⟩ := row_slice (HS.mu 6 rfl)
     refine v_ (lb_ (HS.mu 4 rfl) underlying56 rfl) ?_
     refine mv_ ?_
     refine mv_ ?_
     exact by (
     obtain ⟨⟨q351, q352⟩, H⟩ := if_some H
     obtain ⟨ad353, rfl⟩ := row_open (HS.mu 6 rfl) (by omega)
     refine v_ (ia_ underlying56 1 q351 q352) ?_
     have hk_ := mul_room q351 q352 1
     refine WL.putEl HS 6 rfl rfl rfl rfl rfl rfl [(.slice A330 ((xs298 ++ [t309]).length) c331)] rfl (oneL rfl) (by kernel_rfl) (by first | omega | (rw [List.length_nil]; omega) | (simp; omega)) (fun w354 I355 hI356 HS => ?_)
     dsimp only [List.set] at HS
     clear hk_
     replace HS := HS.rowN 6 rfl (show xs302.length = (xs302.set t334.2.1.toNat (xs298 ++ [t309])).length from (List.length_set ..).symm)
     exact by (
     dsimp only [List.set] at HS
     replace HS := HS.front 1 rfl
     dsimp only [List.eraseIdx] at HS
     replace HS := HS.front 2 rfl
     dsimp only [List.eraseIdx] at HS
     replace HS := HS.seal rfl rfl
     replace HS := HS.front 6 rfl
     dsimp only [List.eraseIdx] at HS
     exact by (
     replace HS := HS.front 1 rfl
     dsimp only [List.eraseIdx] at HS
     obtain ⟨bl357, HS⟩ := HS.elsSet t334.2.1.toNat rfl hI356 (toNat_lt q351 q352)
     generalize hv359 : (Value.slice (some ad353) xs302.length c350) = v358 at HS ⊢
     refine dn_ hK348 (sr_ fun _ hK360 => ?_)
     clear hK348
     refine fast_ ?_
     refine via_ hK360 (WC.ret ?_)
     exact by (
     clear hK360
     refine fin2 Try.f109 rfl rfl rfl hR329 ⟨_, rfl, ?_⟩
     refine mv_ ?_
     refine v_ (Run.extract rfl rfl rfl) ?_
     refine v_ (Run.extract rfl rfl rfl) ?_
     refine as_ ?_
     refine ad_ hK308 ?_
     clear hK308
     exact by (
     refine WC.seq fun _ hK361 => ?_
     refine sr_ fun _ hK362 => ?_
     refine mv_ ?_
     refine nt_ ?_
     refine dn_ hK362 (wn_ rfl ?_)
     clear hK362
     refine WC.skip (via_ hK361 (WC.seq fun K363 hK363 => ?_))
     clear hK361
     exact by (
     obtain ⟨G364, hG365, oc366, H, Ho367⟩ := open_G H
     have X378 : ∀ E_ W_, (∃ (xs368 : List Int) (v369 : Value) (I370 : List Value) (xs371 : List (List S62)) (v372 : Value) (I373 : List Value) (bl374 : List Nat) (xs375 : List Int) (v376 : Value) (I377 : List Value), E_ = [(6, .pointer (some ⟨b8, 0, none⟩)), (7, .pointer (some ⟨b10, 0, none⟩)), (9, .pointer (some ⟨b39, 0, none⟩)), (10, .pointer (some ⟨b41, 0, none⟩))] ∧ G364 (xs368, xs371, xs375) = some (r1, r2, r3) ∧ St (fun _ => True) w W_ [elsM (Dk.slice 62 dq62) xs371 I373 bl374, rowM w.heap.size 3 1 v369 xs368.length I370, boxM b41 #[v376, vi (wrap64 (t32.f1 + 1))] 67, boxM b39 #[v369, v372] 58, rowM w.heap.size 3 1 v376 xs375.length I377, rowM w.heap.size 71 1 v372 xs371.length I373, boxM b10 #[sn, vi 0] 67, boxM b8 #[sn, sn] 58, boxM b6 #[.slice A2_0 x2.f0.length c2_0, .slice A2_1 x2.f1.length c2_1] 62, boxM b4 #[.slice A1_0 x1.f0.length c1_0, vi x1.f1] 67, boxM b2 #[.slice A0_0 x0.f0.length c0_0, .slice A0_1 x0.f1.length c0_1] 58] [(cF kI A0_0 x0.f0), (cF kS62 A0_1 x0.f1), (cF kI A1_0 x1.f0), (cF kS149 A2_0 x2.f0), (cF kS149 A2_1 x2.f1)] [(rF kI xs368 I370), (rF kI xs375 I377)]) → ∀ a, Fits a 109 E_ → K363 a W_ := by
       rintro E_ w379 ⟨xs368, v369, I370, xs371, v372, I373, bl374, xs375, v376, I377, rfl, H, HS⟩
       rw [hG365] at H
       (try dsimp only at H)
       refine hK363 _ _ ?_
       clear hK363
       refine WC.seq fun _ hK380 => ?_
       exact by (
       refine WC.drawW HS [boxM b41 #[v376, vi (wrap64 (t32.f1 + 1))] 67, boxM b39 #[v369, v372] 58, boxM b6 #[.slice A2_0 x2.f0.length c2_0, .slice A2_1 x2.f1.length c2_1] 62, boxM b4 #[.slice A1_0 x1.f0.length c1_0, vi x1.f1] 67, boxM b2 #[.slice A0_0 x0.f0.length c0_0, .slice A0_1 x0.f1.length c0_1] 58] (fun _ HS => ⟨(HS.mu 2 rfl), (HS.mu 3 rfl), (HS.mu 8 rfl), (HS.mu 9 rfl), (HS.mu 10 rfl), trivial⟩) [] rfl rfl (fun w381 HS => ?_)
       obtain ⟨A382, c383, rfl⟩ := row_slice (HS.mu 1 rfl)
       obtain ⟨A384, c385, rfl⟩ := row_slice (HS.mu 5 rfl)
       refine dt_ 0 ⟨HS.nowO, HS.nowN, ⟨(HS.mu 2 rfl), (HS.mu 3 rfl), (HS.mu 8 rfl), (HS.mu 9 rfl), (HS.mu 10 rfl), trivial⟩⟩ (fun w_ hw_ => Run.loadS (cs := [(.slice A382 xs368.length c383), (.slice A384 xs371.length c385)]) rfl rfl underlying58 rfl (by kernel_rfl) (box_part hw_.2.2.2.1 part_all)) ?_
       obtain ⟨A386, c387, rfl⟩ := row_slice (HS.mu 4 rfl)
       refine dt_ 1 ⟨HS.nowO, HS.nowN, ⟨(HS.mu 2 rfl), (HS.mu 3 rfl), (HS.mu 8 rfl), (HS.mu 9 rfl), (HS.mu 10 rfl), trivial⟩⟩ (fun w_ hw_ => Run.loadS (cs := [(.slice A386 xs375.length c387), vi (wrap64 (t32.f1 + 1))]) rfl rfl underlying67 rfl (by kernel_rfl) (box_part hw_.2.2.1 part_all)) ?_
       refine WD.storeS 2 HS 7 rfl rfl rfl rfl (oneL rfl) (by kernel_rfl) (ble_ rfl) (cs' := #[(.slice A382 xs368.length c383), (.slice A384 xs371.length c385)]) (by kernel_rfl) (fun w388 HS => ?_)
       dsimp only [List.set] at HS
       exact by (
       refine ⟨⟨HS.nowO, HS.nowN, ⟨(HS.mu 2 rfl), (HS.mu 3 rfl), (HS.mu 8 rfl), (HS.mu 9 rfl), (HS.mu 10 rfl), trivial⟩⟩, ?_⟩
       refine WD.storeS 3 HS 6 rfl rfl rfl rfl (oneL rfl) (by kernel_rfl) (ble_ rfl) (cs' := #[(.slice A386 xs375.length c387), vi (wrap64 (t32.f1 + 1))]) (by kernel_rfl) (fun w389 HS => ?_)
       dsimp only [List.set] at HS
       refine ⟨⟨HS.nowO, HS.nowN, ⟨(HS.mu 2 rfl), (HS.mu 3 rfl), (HS.mu 8 rfl), (HS.mu 9 rfl), (HS.mu 10 rfl), trivial⟩⟩, ?_⟩
       refine dp_ 4 (fun _ => Run.assign rfl rfl) ?_
       refine dd_ (via_ hK380 (WC.ret ?_))
       clear hK380
       replace HS := HS.elsF (xs := xs368) (inner := I370) (Dk.int .i64) (fun _ _ _ h_ => ⟨h_, rfl⟩) (fun _ => (HS.getN 0 rfl))
       exact by (
       replace HS := HS.front 2 rfl
       dsimp only [List.eraseIdx] at HS
       replace HS := HS.seal rfl rfl
       replace HS := HS.front 1 rfl
       dsimp only [List.eraseIdx] at HS
       replace HS := HS.front 5 rfl
       dsimp only [List.eraseIdx] at HS
       replace HS := HS.seal rfl rfl
       exact by (
       replace HS := HS.elsF (xs := xs375) (inner := I377) (Dk.int .i64) (fun _ _ _ h_ => ⟨h_, rfl⟩) (fun _ => (HS.getN 1 rfl))
       replace HS := HS.front 5 rfl
       dsimp only [List.eraseIdx] at HS
       replace HS := HS.seal rfl rfl
       obtain ⟨rfl, rfl, rfl⟩ := (by have h_ := os H; simp only [Prod.mk.injEq] at h_; exact h_)
       exact fin3 Try.f45 rfl ⟨_, rfl, resv_box (HS.mu 6 rfl) underlying58 rfl (by kernel_rfl)⟩ ⟨_, rfl, resv_box (HS.mu 5 rfl) underlying67 rfl (by kernel_rfl)⟩ rfl hR_ ⟨_, _, _, _, _, _, rfl, (St.owns (St.front (St.front (St.front (St.forget (St.forget (St.forget (St.forget (St.forget (St.forget (St.forget HS 9 rfl) 8 rfl) 7 rfl) 6 rfl) 5 rfl) 4 rfl) 3 rfl) 0 rfl) 1 rfl) 2 rfl)), HS.b⟩ ))))
     clear hK363
     refine sr_ fun _ hK391 => ?_
     exact by (
     refine v_ (fa_ underlying67) ?_
     refine v_ (lb_ (HS.mu 10 rfl) underlying3 rfl) ?_
     refine v_ (Run.bin rfl rfl rfl (bin_rem (show (4 : Int) ≠ 0 by decide))) ?_
     refine b_ bin_gtr ?_
     refine dn_ hK391 ?_
     clear hK391
     rcases eti_ H with ⟨c392, H⟩ | ⟨c392, H⟩
     · refine wn_ (dF c392) (rg_ (v_ (fa_ underlying67) ?_))
       exact by (
       refine v_ (lb_ (HS.mu 2 rfl) underlying22 rfl) ?_
       refine mv_ ?_
       refine WL.val rfl rfl (by decide) (Run.lit1 (z := (vi 0)) (vs := [vi t334.2.1]) rfl rfl rfl underlying22 (by kernel_rfl) (ble_ rfl) (ble_ rfl)) ?_
       have HS1 := HS.below (below_alloc (Below.refl _ _) (.cells #[vi t334.2.1] 3))
       obtain ⟨q442, H⟩ := if_some H
       refine WL.append HS1 4 rfl rfl rfl (by decide) rfl (vi 0) 8 underlying22 (by kernel_rfl) rfl (by decide) (by decide) rfl rfl [vi t334.2.1] rfl (lit_news _ _ _) (oneL rfl) (by omega) ((t32.f0 ++ [t334.2.1]).length) (by simp) (fun v443 w444 I445 hI446 HS => ?_)
       dsimp only [List.set] at HS
       replace HS := HS.deriveN (p := (rF kI (t32.f0 ++ [t334.2.1]) I445)) (fun W_ hN_ => reps_snoc hI446 hN_.2.1 (K_int _))
       exact by (
       clear HS1
       refine v_ (fa_ underlying67) ?_
       obtain ⟨A448, c449, rfl⟩ := row_slice (HS.mu 4 rfl)
       refine WL.store HS 2 rfl rfl rfl rfl rfl rfl rfl (by kernel_rfl) (ble_ rfl) (cs' := #[(.slice A448 ((t32.f0 ++ [t334.2.1]).length) c449), vi (wrap64 (t32.f1 + 1))]) (by kernel_rfl) (fun w447 HS => ?_)
       dsimp only [List.set] at HS
       refine WL.done ?_
       obtain rfl := os H
       exact wv_ iq X378 ⟨t334.1, (.slice A346 t334.1.length c347), I339, (xs302.set t334.2.1.toNat (xs298 ++ [t309])), v358, I355, bl357, (t32.f0 ++ [t334.2.1]), (.slice A448 ((t32.f0 ++ [t334.2.1]).length) c449), I445, rfl, Ho367, (St.pk (St.forget HS 6 rfl) [0, 1, 2, 3, 4] [1, 0] rfl rfl)⟩ ))
     exact by (
     refine wy_ (dT c392) (sr_ fun _ hK393 => ?_)
     refine v_ (fa_ underlying67) ?_
     refine v_ (lb_ (HS.mu 10 rfl) underlying22 rfl) ?_
     refine mv_ ?_
     obtain ⟨⟨q394, q395⟩, H⟩ := if_some H
     obtain ⟨ad396, rfl⟩ := C_open (HS.getO 2 rfl) (by omega)
     refine v_ (ia_ underlying22 1 q394 q395) ?_
     refine v_ (Run.load rfl rfl underlying3 rfl (int_cell (HS.getO 2 rfl) (wrap64 ((x1.f0.length : Int) - 1)) q394 q395)) ?_
     exact by (
     refine ci_ (args := [.pointer (some ⟨b39, 0, none⟩), vi (x1.f0.getD (wrap64 ((x1.f0.length : Int) - 1)).toNat 0)]) func110 ?_
     refine cw_ (n := 27) func110 fun _ hR397 => ?_
     refine WC.endK (fun _ hK398 => ?_)
     refine sr_ fun _ hK399 => ?_
     refine mv_ ?_
     refine v_ (Run.nilCheck rfl rfl) ?_
     refine v_ (fa_ underlying58) ?_
     refine v_ (lb_ (HS.mu 3 rfl) underlying22 rfl) ?_
     exact by (
     refine mv_ ?_
     obtain ⟨⟨q400, q401⟩, H⟩ := if_some H
     obtain ⟨ad402, rfl⟩ := row_open (HS.mu 1 rfl) (by omega)
     refine v_ (ia_ underlying22 1 q400 q401) ?_
     refine v_ (Run.load rfl rfl underlying3 rfl (row_int (HS.mu 1 rfl) (HS.getN 0 rfl) q400 q401)) ?_
     refine b_ bin_sub64 ?_
     refine v_ (ia_ underlying22 1 q400 q401) ?_
     have hk_ := mul_room q400 q401 1
     exact by (
     refine WL.putEl HS 1 rfl rfl rfl rfl rfl rfl [vi (wrap64 ((t334.1.getD (x1.f0.getD (wrap64 ((x1.f0.length : Int) - 1)).toNat 0).toNat 0) - 1))] rfl (oneL rfl) (by kernel_rfl) (by first | omega | (rw [List.length_nil]; omega) | (simp; omega)) (fun w403 I404 hI405 HS => ?_)
     dsimp only [List.set] at HS
     clear hk_
     replace HS := HS.deriveN (p := (rF kI (t334.1.set (x1.f0.getD (wrap64 ((x1.f0.length : Int) - 1)).toNat 0).toNat (wrap64 ((t334.1.getD (x1.f0.getD (wrap64 ((x1.f0.length : Int) - 1)).toNat 0).toNat 0) - 1))) I404)) (fun W_ hN_ => reps_set hI405 hN_.1 (K_int _) (toNat_lt q400 q401))
     replace HS := HS.rowN 1 rfl (show t334.1.length = (t334.1.set (x1.f0.getD (wrap64 ((x1.f0.length : Int) - 1)).toNat 0).toNat (wrap64 ((t334.1.getD (x1.f0.getD (wrap64 ((x1.f0.length : Int) - 1)).toNat 0).toNat 0) - 1))).length from (List.length_set ..).symm)
     dsimp only [List.set] at HS
     generalize hv407 : (Value.slice (some ad402) t334.1.length c347) = v406 at HS ⊢
     refine dn_ hK399 (sr_ fun _ hK408 => ?_)
     exact by (
     clear hK399
     refine mv_ ?_
     refine v_ (Run.nilCheck rfl rfl) ?_
     refine v_ (fa_ underlying58) ?_
     obtain ⟨A409, c410, rfl⟩ := row_slice (HS.mu 1 rfl)
     refine v_ (lb_ (HS.mu 3 rfl) underlying22 rfl) ?_
     refine mv_ ?_
     obtain ⟨⟨q411, q412⟩, H⟩ := if_some H
     exact by (
     obtain ⟨ad413, rfl⟩ := row_open (HS.mu 1 rfl) (by omega)
     refine v_ (ia_ underlying22 1 q411 q412) ?_
     refine v_ (Run.load rfl rfl underlying3 rfl (row_int (HS.mu 1 rfl) (HS.getN 0 rfl) q411 q412)) ?_
     refine b_ bin_eql ?_
     refine dn_ hK408 ?_
     clear hK408
     rcases eti_ H with ⟨c414, H⟩ | ⟨c414, H⟩
     · refine wn_ (eF c414) (WC.skip (viaQ_ hK398 ?_))
       exact by (
       refine fin0 Try.f110 hR397 ⟨_, rfl, ?_⟩ (Or.inr rfl)
       refine dn_ hK393 (rg_ (v_ (fa_ underlying67) ?_))
       clear hK393
       refine v_ (lb_ (HS.mu 2 rfl) underlying22 rfl) ?_
       refine mv_ ?_
       refine mv_ ?_
       obtain ⟨⟨q434, q435⟩, H⟩ := if_some H
       obtain ⟨ad436, rfl⟩ := row_open (HS.mu 4 rfl) (by omega)
       exact by (
       refine v_ (ia_ underlying22 1 q434 q435) ?_
       have hk_ := mul_room q434 q435 1
       refine WL.putEl HS 4 rfl rfl rfl rfl rfl rfl [vi t334.2.1] rfl (oneL rfl) (by kernel_rfl) (by first | omega | (rw [List.length_nil]; omega) | (simp; omega)) (fun w437 I438 hI439 HS => ?_)
       dsimp only [List.set] at HS
       clear hk_
       replace HS := HS.deriveN (p := (rF kI (t32.f0.set (wrap64 ((x1.f0.length : Int) - 1)).toNat t334.2.1) I438)) (fun W_ hN_ => reps_set hI439 hN_.2.2.1 (K_int _) (toNat_lt q434 q435))
       replace HS := HS.rowN 4 rfl (show t32.f0.length = (t32.f0.set (wrap64 ((x1.f0.length : Int) - 1)).toNat t334.2.1).length from (List.length_set ..).symm)
       dsimp only [List.set] at HS
       exact by (
       generalize hv441 : (Value.slice (some ad436) t32.f0.length c50) = v440 at HS ⊢
       refine WL.done ?_
       obtain rfl := os H
       exact wv_ iq X378 ⟨(t334.1.set (x1.f0.getD (wrap64 ((x1.f0.length : Int) - 1)).toNat 0).toNat (wrap64 ((t334.1.getD (x1.f0.getD (wrap64 ((x1.f0.length : Int) - 1)).toNat 0).toNat 0) - 1))), (.slice (some ad413) ((t334.1.set (x1.f0.getD (wrap64 ((x1.f0.length : Int) - 1)).toNat 0).toNat (wrap64 ((t334.1.getD (x1.f0.getD (wrap64 ((x1.f0.length : Int) - 1)).toNat 0).toNat 0) - 1))).length) c410), I404, (xs302.set t334.2.1.toNat (xs298 ++ [t309])), v358, I355, bl357, (t32.f0.set (wrap64 ((x1.f0.length : Int) - 1)).toNat t334.2.1), v440, I438, rfl, Ho367, (St.pk (St.forget HS 6 rfl) [0, 1, 2, 3, 4] [1, 0] rfl rfl)⟩ )))
     refine wy_ (eT c414) (rg_ (mv_ ?_))
     refine v_ (Run.nilCheck rfl rfl) ?_
     refine v_ (fa_ underlying58) ?_
     obtain ⟨A415, c416, rfl⟩ := row_slice (HS.mu 5 rfl)
     exact by (
     refine v_ (lb_ (HS.mu 3 rfl) underlying56 rfl) ?_
     refine mv_ ?_
     obtain ⟨⟨q417, q418⟩, H⟩ := if_some H
     obtain ⟨ad419, rfl⟩ := row_open (HS.mu 5 rfl) (by omega)
     refine v_ (ia_ underlying56 1 q417 q418) ?_
     have hk_ := mul_room q417 q418 1
     refine WL.putEl HS 5 rfl rfl rfl rfl rfl rfl [sn] rfl (oneL rfl) (by kernel_rfl) (by first | omega | (rw [List.length_nil]; omega) | (simp; omega)) (fun w420 I421 hI422 HS => ?_)
     dsimp only [List.set] at HS
     exact by (
     clear hk_
     replace HS := HS.rowN 5 rfl (show (xs302.set t334.2.1.toNat (xs298 ++ [t309])).length = ((xs302.set t334.2.1.toNat (xs298 ++ [t309])).set (x1.f0.getD (wrap64 ((x1.f0.length : Int) - 1)).toNat 0).toNat ([])).length from (List.length_set ..).symm)
     dsimp only [List.set] at HS
     replace HS := HS.nilV (α := S62) 62 (dq62)
     replace HS := HS.front 1 rfl
     dsimp only [List.eraseIdx] at HS
     replace HS := HS.front 1 rfl
     dsimp only [List.eraseIdx] at HS
     exact by (
     obtain ⟨bl423, HS⟩ := HS.elsSet (x1.f0.getD (wrap64 ((x1.f0.length : Int) - 1)).toNat 0).toNat rfl hI422 (toNat_lt q417 q418)
     generalize hv425 : (Value.slice (some ad419) ((xs302.set t334.2.1.toNat (xs298 ++ [t309])).length) c416) = v424 at HS ⊢
     refine WL.done ?_
     refine viaQ_ hK398 ?_
     refine fin0 Try.f110 hR397 ⟨_, rfl, ?_⟩ (Or.inr rfl)
     refine dn_ hK393 (rg_ (v_ (fa_ underlying67) ?_))
     clear hK393
     refine v_ (lb_ (HS.mu 2 rfl) underlying22 rfl) ?_
     exact by (
     refine mv_ ?_
     refine mv_ ?_
     obtain ⟨⟨q426, q427⟩, H⟩ := if_some H
     obtain ⟨ad428, rfl⟩ := row_open (HS.mu 4 rfl) (by omega)
     refine v_ (ia_ underlying22 1 q426 q427) ?_
     have hk_ := mul_room q426 q427 1
     refine WL.putEl HS 4 rfl rfl rfl rfl rfl rfl [vi t334.2.1] rfl (oneL rfl) (by kernel_rfl) (by first | omega | (rw [List.length_nil]; omega) | (simp; omega)) (fun w429 I430 hI431 HS => ?_)
     dsimp only [List.set] at HS
     exact by (
     clear hk_
     replace HS := HS.deriveN (p := (rF kI (t32.f0.set (wrap64 ((x1.f0.length : Int) - 1)).toNat t334.2.1) I430)) (fun W_ hN_ => reps_set hI431 hN_.2.2.1 (K_int _) (toNat_lt q426 q427))
     replace HS := HS.rowN 4 rfl (show t32.f0.length = (t32.f0.set (wrap64 ((x1.f0.length : Int) - 1)).toNat t334.2.1).length from (List.length_set ..).symm)
     dsimp only [List.set] at HS
     generalize hv433 : (Value.slice (some ad428) t32.f0.length c50) = v432 at HS ⊢
     refine WL.done ?_
     obtain rfl := os H
     exact wv_ iq X378 ⟨(t334.1.set (x1.f0.getD (wrap64 ((x1.f0.length : Int) - 1)).toNat 0).toNat (wrap64 ((t334.1.getD (x1.f0.getD (wrap64 ((x1.f0.length : Int) - 1)).toNat 0).toNat 0) - 1))), (.slice (some ad413) ((t334.1.set (x1.f0.getD (wrap64 ((x1.f0.length : Int) - 1)).toNat 0).toNat (wrap64 ((t334.1.getD (x1.f0.getD (wrap64 ((x1.f0.length : Int) - 1)).toNat 0).toNat 0) - 1))).length) c410), I404, ((xs302.set t334.2.1.toNat (xs298 ++ [t309])).set (x1.f0.getD (wrap64 ((x1.f0.length : Int) - 1)).toNat 0).toNat ([])), v424, I421, bl423, (t32.f0.set (wrap64 ((x1.f0.length : Int) - 1)).toNat t334.2.1), v432, I430, rfl, Ho367, (St.pk (St.forget HS 6 rfl) [0, 1, 2, 3, 4] [1, 0] rfl rfl)⟩ )))))))))))))))))))))))))))))))
   exact by (
   clear hK293
   refine sr_ fun _ hK457 => ?_
   refine v_ (fa_ underlying67) ?_
   refine v_ (lb_ (HS.mu 11 rfl) underlying3 rfl) ?_
   refine v_ (Run.bin rfl rfl rfl (bin_rem (show (4 : Int) ≠ 0 by decide))) ?_
   refine b_ bin_gtr ?_
   refine dn_ hK457 ?_
   clear hK457
   exact by (
   rcases eti_ H with ⟨c458, H⟩ | ⟨c458, H⟩
   · refine wn_ (dF c458) (WC.skip ?_)
     obtain rfl := os H
     exact wv_ iq X306 ⟨([] : List S62), v289, ([]), ([]), t21.f1, (.slice A46 t21.f1.length c47), I30, bl31, rfl, Ho297, HS⟩
   refine wy_ (dT c458) (sr_ fun _ hK459 => ?_)
   refine v_ (fa_ underlying67) ?_
   refine v_ (lb_ (HS.mu 11 rfl) underlying22 rfl) ?_
   refine mv_ ?_
   exact by (
   obtain ⟨⟨q460, q461⟩, H⟩ := if_some H
   obtain ⟨ad462, rfl⟩ := C_open (HS.getO 2 rfl) (by omega)
   refine v_ (ia_ underlying22 1 q460 q461) ?_
   refine v_ (Run.load rfl rfl underlying3 rfl (int_cell (HS.getO 2 rfl) (wrap64 ((x1.f0.length : Int) - 1)) q460 q461)) ?_
   refine ad_ hK459 ?_
   clear hK459
   refine WC.seq fun _ hK463 => ?_
   refine WC.drawS HS [] rfl rfl (fun w464 HS => ?_)
   exact by (
   have HB := Below.refl w464.heap.size w464
   have HSW := HS
   refine df_ 0 underlying58 ?_
   refine dm_ 2 ?_
   refine df_ 5 underlying67 ?_
   refine bl_ 1 HS (Below.refl _ _) 12 underlying56 rfl ?_
   obtain ⟨⟨q465, q466⟩, H⟩ := if_some H
   obtain ⟨ad467, rfl⟩ := C_open (HS.getO 1 rfl) (by omega)
   exact by (
   refine di_ 3 underlying56 1 q465 q466 ?_
   obtain ⟨A468, c469, le470, HS⟩ := HS.slO 1 rfl (x1.f0.getD (wrap64 ((x1.f0.length : Int) - 1)).toNat 0) q465 q466
   replace HSW := HS
   refine dt_ 4 (Below.refl _ _) (fun w_ hw_ => Run.load rfl rfl underlying71 rfl ((HS.below hw_).getO 1 rfl)) ?_
   refine bl_ 6 HS (Below.refl _ _) 11 underlying3 rfl ?_
   refine dp_ 7 (fun _ => Run.bin rfl rfl rfl (bin_rem (show (4 : Int) ≠ 0 by decide))) ?_
   obtain ⟨⟨q471, q472⟩, H⟩ := if_some H
   obtain ⟨A473, c474, he475, le476, hf477⟩ := slc_take k62 A468 c469 (x0.f1.getD (x1.f0.getD (wrap64 ((x1.f0.length : Int) - 1)).toNat 0).toNat []) (Int.tmod x1.f1 4) q471 q472 le470
   exact by (
   replace HS := HS.deriveO (p := (cF k62 A473 ((x0.f1.getD (x1.f0.getD (wrap64 ((x1.f0.length : Int) - 1)).toNat 0).toNat []).take (Int.tmod x1.f1 4).toNat))) (fun W_ hO_ hN_ => hf477 W_ hO_.1)
   refine dp_ 8 (fun _ => Run.eqv he475 (Run.slH rfl underlying71 (by kernel_rfl) rfl rfl q471 (Int.le_trans q472 (Int.ofNat_le.mpr le470)))) ?_
   obtain ⟨t478, ha479, H⟩ := bind_some H
   refine dc_ 9 (w_none rfl) func107 (impl_cloneCells.runs k A473 c474 ((x0.f1.getD (x1.f0.getD (wrap64 ((x1.f0.length : Int) - 1)).toNat 0).toNat []).take (Int.tmod x1.f1 4).toNat) t478 _ (HS.getO 0 rfl) le476 ha479) ?_
   clear ha479
   rintro _ w480 ⟨v481, bl482, rfl, hO_, hb⟩
   replace HB := HB.trans (hb.mono HB.size)
   replace HS := HS.got hb hO_
   exact by (
   dsimp only [List.cons_append, List.nil_append] at HS
   clear hO_
   obtain ⟨I483, bl484, HS⟩ := HS.unseal (sz := 2) rfl
   refine ⟨HB, _, rfl, ?_⟩
   clear hb
   refine dp_ 10 (fun _ => Run.assign rfl rfl) ?_
   refine dd_ ?_
   clear HB HSW
   exact by (
   refine via_ hK463 (sr_ fun _ hK485 => ?_)
   clear hK463
   refine v_ (fa_ underlying58) ?_
   refine v_ (lb_ (HS.mu 14 rfl) underlying22 rfl) ?_
   refine mv_ ?_
   obtain ⟨⟨q486, q487⟩, H⟩ := if_some H
   obtain ⟨ad488, rfl⟩ := C_open (HS.getO 3 rfl) (by omega)
   refine v_ (ia_ underlying22 1 q486 q487) ?_
   exact by (
   refine v_ (Run.load rfl rfl underlying3 rfl (int_cell (HS.getO 3 rfl) (x1.f0.getD (wrap64 ((x1.f0.length : Int) - 1)).toNat 0) q486 q487)) ?_
   refine b_ bin_eql ?_
   refine ad_ hK485 ?_
   clear hK485
   refine sr_ fun _ hK489 => ?_
   refine mv_ ?_
   refine dn_ hK489 ?_
   clear hK489
   exact by (
   rcases eti_ H with ⟨c490, H⟩ | ⟨c490, H⟩
   · refine wn_ (eF c490) (WC.skip ?_)
     obtain rfl := os H
     exact wv_ iq X306 ⟨t478, v481, I483, bl484, t21.f1, (.slice A46 t21.f1.length c47), I30, bl31, rfl, Ho297, (St.pk (St.front (St.front (St.front (St.front (St.front (St.front (St.front (St.front (St.front (St.front (St.front (St.front (St.front (St.forget (St.forget HS 3 rfl) 2 rfl) 12 rfl) 12 rfl) 12 rfl) 12 rfl) 12 rfl) 12 rfl) 12 rfl) 12 rfl) 12 rfl) 12 rfl) 12 rfl) 11 rfl) 12 rfl) [3, 4, 5, 6, 7] [0, 1] rfl rfl)⟩
   refine wy_ (eT c490) (WC.seq fun _ hK491 => ?_)
   refine WC.drawW HS [boxM b41 #[(.slice A49 t32.f0.length c50), vi (wrap64 (t32.f1 + 1))] 67, boxM b39 #[(.slice A44 t21.f0.length c45), (.slice A46 t21.f1.length c47)] 58, boxM b10 #[sn, vi 0] 67, boxM b8 #[sn, sn] 58, boxM b6 #[.slice A2_0 x2.f0.length c2_0, .slice A2_1 x2.f1.length c2_1] 62, boxM b4 #[.slice (some ad462) x1.f0.length c1_0, vi x1.f1] 67, boxM b2 #[.slice (some ad488) x0.f0.length c0_0, .slice (some ad467) x0.f1.length c0_1] 58] (fun _ HS => ⟨(HS.mu 4 rfl), (HS.mu 5 rfl), (HS.mu 10 rfl), (HS.mu 11 rfl), (HS.mu 12 rfl), (HS.mu 13 rfl), (HS.mu 14 rfl), trivial⟩) [9] rfl rfl (fun w492 HS => ?_)
   refine df_ 0 underlying58 ?_
   refine dm_ 2 ?_
   exact by (
   refine dm_ 3 ?_
   refine dt_ 1 ⟨HS.nowO, HS.nowN, ⟨(HS.mu 4 rfl), (HS.mu 5 rfl), (HS.mu 10 rfl), (HS.mu 11 rfl), (HS.mu 12 rfl), (HS.mu 13 rfl), (HS.mu 14 rfl), trivial⟩⟩ (fun w_ hw_ => Run.load rfl rfl underlying56 rfl (box_cell hw_.2.2.2.1 rfl)) ?_
   refine dt_ 4 ⟨HS.nowO, HS.nowN, ⟨(HS.mu 4 rfl), (HS.mu 5 rfl), (HS.mu 10 rfl), (HS.mu 11 rfl), (HS.mu 12 rfl), (HS.mu 13 rfl), (HS.mu 14 rfl), trivial⟩⟩ (fun w_ hw_ => Run.loadS (cs := [.slice A2_0 x2.f0.length c2_0, .slice A2_1 x2.f1.length c2_1]) rfl rfl underlying62 rfl (by kernel_rfl) (box_part hw_.2.2.2.2.2.2.1 part_all)) ?_
   obtain ⟨t493, ha494, H⟩ := bind_some H
   refine dc_ 5 (w_none rfl) func108 (impl_cloneCell.runs k (⟨x2.f0, x2.f1⟩ : S62) A2_0 c2_0 A2_1 c2_1 t493 _ (HS.getO 6 rfl) hc2_0 (HS.getO 7 rfl) hc2_1 ha494) ?_
   clear ha494
   rintro _ w495 ⟨v496, bl497, v498, bl499, rfl, hO_, hb⟩
   replace HS := HS.got hb hO_
   exact by (
   dsimp only [List.cons_append, List.nil_append] at HS
   clear hO_
   obtain ⟨I500, bl501, HS⟩ := HS.unseal (sz := 1) rfl
   replace HS := HS.front 2 rfl
   dsimp only [List.eraseIdx] at HS
   obtain ⟨I502, bl503, HS⟩ := HS.unseal (sz := 1) rfl
   refine ⟨⟨HS.nowO, HS.nowN, ⟨(HS.mu 8 rfl), (HS.mu 9 rfl), (HS.mu 14 rfl), (HS.mu 15 rfl), (HS.mu 16 rfl), (HS.mu 17 rfl), (HS.mu 18 rfl), trivial⟩⟩, _, rfl, ?_⟩
   clear hb
   exact by (
   obtain ⟨A504, c505, rfl⟩ := row_slice (HS.mu 2 rfl)
   obtain ⟨A506, c507, rfl⟩ := row_slice (HS.mu 0 rfl)
   have HS1 := HS.below (below_alloc (Below.refl _ _) (.cells #[(.slice A504 t493.f0.length c505), (.slice A506 t493.f1.length c507)] 62))
   refine dv_ 6 (w_none rfl) (Run.lit1 (z := (.agg #[sn, sn])) (vs := [(.slice A504 t493.f0.length c505), (.slice A506 t493.f1.length c507)]) rfl rfl rfl underlying71 (by kernel_rfl) (ble_ rfl) (ble_ rfl)) ⟨HS1.nowO, HS1.nowN, ⟨(HS1.mu 8 rfl), (HS1.mu 9 rfl), (HS1.mu 14 rfl), (HS1.mu 15 rfl), (HS1.mu 16 rfl), (HS1.mu 17 rfl), (HS1.mu 18 rfl), trivial⟩⟩ ?_
   obtain ⟨q508, H⟩ := if_some H
   refine WD.append 7 (w_none rfl) HS1 4 rfl rfl (.agg #[sn, sn]) 48 underlying71 (by kernel_rfl) rfl (by decide) (by decide) rfl rfl [(.slice A504 t493.f0.length c505), (.slice A506 t493.f1.length c507)] rfl (lit_news _ _ _) (oneL rfl) (by omega) ((t478 ++ [t493]).length) (by simp) (fun v509 w510 I511 hI512 HS => ?_)
   dsimp only [List.set] at HS
   clear HS1
   exact by (
   replace HS := HS.front 3 rfl
   dsimp only [List.eraseIdx] at HS
   replace HS := HS.front 3 rfl
   dsimp only [List.eraseIdx] at HS
   replace HS := HS.seal rfl rfl
   replace HS := HS.front 2 rfl
   dsimp only [List.eraseIdx] at HS
   replace HS := HS.front 2 rfl
   exact by (
   dsimp only [List.eraseIdx] at HS
   replace HS := HS.seal rfl rfl
   replace HS := HS.front 1 rfl
   dsimp only [List.eraseIdx] at HS
   replace HS := HS.both
   replace HS := HS.put0 (valM dq62 t493 ([(.slice A504 t493.f0.length c505), (.slice A506 t493.f1.length c507)]) ((((.slice A504 t493.f0.length c505) : Value).ownBlock.toList ++ bl501) ++ (((.slice A506 t493.f1.length c507) : Value).ownBlock.toList ++ bl503))) (fun hP_ => foot_val (dq62_mk _ t493 hP_.1 hP_.2)) (fun h_ => h_) (fun _ h_ => h_)
   replace HS := HS.front 2 rfl
   dsimp only [List.eraseIdx] at HS
   exact by (
   replace HS := HS.front 1 rfl
   dsimp only [List.eraseIdx] at HS
   replace HS := HS.elsSnoc hI512
   refine ⟨⟨HS.nowO, HS.nowN, ⟨(HS.mu 4 rfl), (HS.mu 5 rfl), (HS.mu 10 rfl), (HS.mu 11 rfl), (HS.mu 12 rfl), (HS.mu 13 rfl), (HS.mu 14 rfl), trivial⟩⟩, ?_⟩
   obtain ⟨⟨q513, q514⟩, H⟩ := if_some H
   obtain ⟨ad515, rfl⟩ := row_open (HS.mu 7 rfl) (by omega)
   refine di_ 8 underlying56 1 q513 q514 ?_
   obtain ⟨A519, c520, rfl⟩ := row_slice (HS.mu 1 rfl)
   exact by (
   have hk_ := mul_room q513 q514 1
   refine WD.putElL 9 HS 7 rfl rfl rfl rfl [(.slice A519 ((t478 ++ [t493]).length) c520)] rfl (oneL rfl) (by kernel_rfl) (by first | omega | (rw [List.length_nil]; omega) | (simp; omega)) (fun w516 I517 hI518 HS => ?_)
   dsimp only [List.set] at HS
   clear hk_
   replace HS := HS.rowN 7 rfl (show t21.f1.length = (t21.f1.set (x1.f0.getD (wrap64 ((x1.f0.length : Int) - 1)).toNat 0).toNat (t478 ++ [t493])).length from (List.length_set ..).symm)
   dsimp only [List.set] at HS
   replace HS := HS.front 1 rfl
   dsimp only [List.eraseIdx] at HS
   exact by (
   replace HS := HS.seal rfl rfl
   replace HS := HS.front 7 rfl
   dsimp only [List.eraseIdx] at HS
   replace HS := HS.front 1 rfl
   dsimp only [List.eraseIdx] at HS
   obtain ⟨bl521, HS⟩ := HS.elsSet (x1.f0.getD (wrap64 ((x1.f0.length : Int) - 1)).toNat 0).toNat rfl hI518 (toNat_lt q513 q514)
   generalize hv523 : (Value.slice (some ad515) t21.f1.length c47) = v522 at HS ⊢
   refine dd_ (via_ hK491 (WC.seq fun _ hK524 => ?_))
   exact by (
   clear hK491
   refine WC.drawW HS [boxM b41 #[(.slice A49 t32.f0.length c50), vi (wrap64 (t32.f1 + 1))] 67, boxM b39 #[(.slice A44 t21.f0.length c45), v522] 58, boxM b6 #[.slice A2_0 x2.f0.length c2_0, .slice A2_1 x2.f1.length c2_1] 62, boxM b4 #[.slice (some ad462) x1.f0.length c1_0, vi x1.f1] 67, boxM b2 #[.slice (some ad488) x0.f0.length c0_0, .slice (some ad467) x0.f1.length c0_1] 58] (fun _ HS => ⟨(HS.mu 3 rfl), (HS.mu 4 rfl), (HS.mu 10 rfl), (HS.mu 11 rfl), (HS.mu 12 rfl), trivial⟩) [] rfl rfl (fun w525 HS => ?_)
   obtain ⟨A526, c527, rfl⟩ := row_slice (HS.mu 6 rfl)
   refine dt_ 0 ⟨HS.nowO, HS.nowN, ⟨(HS.mu 3 rfl), (HS.mu 4 rfl), (HS.mu 10 rfl), (HS.mu 11 rfl), (HS.mu 12 rfl), trivial⟩⟩ (fun w_ hw_ => Run.loadS (cs := [(.slice A44 t21.f0.length c45), (.slice A526 ((t21.f1.set (x1.f0.getD (wrap64 ((x1.f0.length : Int) - 1)).toNat 0).toNat (t478 ++ [t493])).length) c527)]) rfl rfl underlying58 rfl (by kernel_rfl) (box_part hw_.2.2.2.1 part_all)) ?_
   refine dt_ 1 ⟨HS.nowO, HS.nowN, ⟨(HS.mu 3 rfl), (HS.mu 4 rfl), (HS.mu 10 rfl), (HS.mu 11 rfl), (HS.mu 12 rfl), trivial⟩⟩ (fun w_ hw_ => Run.loadS (cs := [(.slice A49 t32.f0.length c50), vi (wrap64 (t32.f1 + 1))]) rfl rfl underlying67 rfl (by kernel_rfl) (box_part hw_.2.2.1 part_all)) ?_
   refine WD.storeS 2 HS 9 rfl rfl rfl rfl (oneL rfl) (by kernel_rfl) (ble_ rfl) (cs' := #[(.slice A44 t21.f0.length c45), (.slice A526 ((t21.f1.set (x1.f0.getD (wrap64 ((x1.f0.length : Int) - 1)).toNat 0).toNat (t478 ++ [t493])).length) c527)]) (by kernel_rfl) (fun w528 HS => ?_)
   dsimp only [List.set] at HS
   refine ⟨⟨HS.nowO, HS.nowN, ⟨(HS.mu 3 rfl), (HS.mu 4 rfl), (HS.mu 10 rfl), (HS.mu 11 rfl), (HS.mu 12 rfl), trivial⟩⟩, ?_⟩
   exact by (
   refine WD.storeS 3 HS 8 rfl rfl rfl rfl (oneL rfl) (by kernel_rfl) (ble_ rfl) (cs' := #[(.slice A49 t32.f0.length c50), vi (wrap64 (t32.f1 + 1))]) (by kernel_rfl) (fun w529 HS => ?_)
   dsimp only [List.set] at HS
   refine ⟨⟨HS.nowO, HS.nowN, ⟨(HS.mu 3 rfl), (HS.mu 4 rfl), (HS.mu 10 rfl), (HS.mu 11 rfl), (HS.mu 12 rfl), trivial⟩⟩, ?_⟩
   refine dp_ 4 (fun _ => Run.assign rfl rfl) ?_
   refine dd_ (via_ hK524 (WC.ret ?_))
   clear hK524
   replace HS := HS.elsF (xs := t21.f0) (inner := I28) (Dk.int .i64) (fun _ _ _ h_ => ⟨h_, rfl⟩) (fun _ => (HS.getN 1 rfl))
   replace HS := HS.front 8 rfl
   exact by (
   dsimp only [List.eraseIdx] at HS
   replace HS := HS.seal rfl rfl
   replace HS := HS.front 1 rfl
   dsimp only [List.eraseIdx] at HS
   replace HS := HS.front 7 rfl
   dsimp only [List.eraseIdx] at HS
   replace HS := HS.seal rfl rfl
   replace HS := HS.elsF (xs := t32.f0) (inner := I37) (Dk.int .i64) (fun _ _ _ h_ => ⟨h_, rfl⟩) (fun _ => (HS.getN 0 rfl))
   exact by (
   replace HS := HS.front 7 rfl
   dsimp only [List.eraseIdx] at HS
   replace HS := HS.seal rfl rfl
   obtain rfl := os H
   rw [hG295] at Ho297
   replace H : some _ = some _ := Ho297
   obtain ⟨rfl, rfl, rfl⟩ := (by have h_ := os H; simp only [Prod.mk.injEq] at h_; exact h_)
   exact fin3 Try.f45 rfl ⟨_, rfl, resv_box (HS.mu 8 rfl) underlying58 rfl (by kernel_rfl)⟩ ⟨_, rfl, resv_box (HS.mu 7 rfl) underlying67 rfl (by kernel_rfl)⟩ rfl hR_ ⟨_, _, _, _, _, _, rfl, (St.owns (St.front (St.front (St.front (St.forget (St.forget (St.forget (St.forget (St.forget (St.forget (St.forget (St.forget (St.forget HS 11 rfl) 10 rfl) 9 rfl) 8 rfl) 7 rfl) 6 rfl) 5 rfl) 4 rfl) 3 rfl) 0 rfl) 1 rfl) 2 rfl)), HS.b⟩ )))))))))))))))))))))))))
 exact by (
 refine three__ 1 4 5 ?_ ?_ ?_
 · have HT_ := True.intro
   obtain ⟨t21, ha22, H⟩ := bind_some H
   refine dco_ 1 (w_none rfl) func105 (impl_cloneStore.runs k (⟨x0.f0, x0.f1⟩ : S58) A0_0 c0_0 A0_1 c0_1 t21 _ (HS.getO 0 rfl) hc0_0 (HS.getO 1 rfl) hc0_1 ha22) ?_
   clear ha22
   rintro _ w23 ⟨v24, bl25, v26, bl27, rfl, hO_, hb⟩
   replace HS := HS.got hb hO_
   dsimp only [List.cons_append, List.nil_append] at HS
   exact by (
   clear hO_
   obtain ⟨I28, bl29, HS⟩ := HS.unseal (sz := 1) rfl
   replace HS := HS.freezeN 1 (p := (rF kI t21.f0 I28)) rfl (fun _ hP_ _ => RepsB.reps hP_)
   dsimp only [List.eraseIdx] at HS
   replace HS := HS.front 1 rfl
   dsimp only [List.eraseIdx] at HS
   obtain ⟨I30, bl31, HS⟩ := HS.unseal (sz := 1) rfl
   refine ⟨⟨HS.nowO, HS.nowN.2, ⟨(HS.mu 3 rfl), (HS.mu 4 rfl), (HS.mu 5 rfl), (HS.mu 6 rfl), (HS.mu 7 rfl), trivial⟩⟩, _, rfl, ?_⟩
   exact by (
   clear hb
   refine three__ 3 4 5 ?_ ?_ ?_
   · have HT_ := True.intro
     obtain ⟨t32, ha33, H⟩ := bind_some H
     refine dco_ 3 (w_none rfl) func106 (impl_cloneTable.runs k (⟨x1.f0, x1.f1⟩ : S67) A1_0 c1_0 t32 _ (HS.getO 2 rfl) hc1_0 ha33) ?_
     clear ha33
     rintro _ w34 ⟨v35, bl36, rfl, hO_, hb⟩
     replace HS := HS.got hb hO_
     exact by (
     dsimp only [List.cons_append, List.nil_append] at HS
     clear hO_
     obtain ⟨I37, bl38, HS⟩ := HS.unseal (sz := 1) rfl
     replace HS := HS.freezeN 1 (p := (rF kI t32.f0 I37)) rfl (fun _ hP_ _ => RepsB.reps hP_)
     dsimp only [List.eraseIdx] at HS
     refine ⟨⟨HS.nowO, HS.nowN.2.2, ⟨(HS.mu 4 rfl), (HS.mu 5 rfl), (HS.mu 6 rfl), (HS.mu 7 rfl), (HS.mu 8 rfl), trivial⟩⟩, _, rfl, ?_⟩
     clear hb
     refine two__ 4 5 ?_ ?_
     · have HT_ := True.intro
       exact by (
       refine WDo.alloc (v := .agg #[sn, sn]) (cs := #[sn, sn]) 4 (w_none rfl) HS rfl (by kernel_rfl) rfl (fun b39 w40 hb39 HS => ?_)
       refine ⟨⟨HS.nowO, HS.nowN.2.2, ⟨(HS.mu 5 rfl), (HS.mu 6 rfl), (HS.mu 7 rfl), (HS.mu 8 rfl), (HS.mu 9 rfl), trivial⟩⟩, ?_⟩
       refine WD.alloc (v := .agg #[sn, vi 0]) (cs := #[sn, vi 0]) 5 (w_none rfl) HS rfl (by kernel_rfl) rfl (fun b41 w42 hb41 HS => ?_)
       refine ⟨⟨HS.nowO, HS.nowN.2.2, ⟨(HS.mu 6 rfl), (HS.mu 7 rfl), (HS.mu 8 rfl), (HS.mu 9 rfl), (HS.mu 10 rfl), trivial⟩⟩, ?_⟩
       obtain ⟨A44, c45, rfl⟩ := row_slice (HS.mu 5 rfl)
       obtain ⟨A46, c47, rfl⟩ := row_slice (HS.mu 3 rfl)
       refine WD.storeS 6 HS 1 rfl rfl rfl rfl (oneL rfl) (by kernel_rfl) (ble_ rfl) (cs' := #[(.slice A44 t21.f0.length c45), (.slice A46 t21.f1.length c47)]) (by kernel_rfl) (fun w43 HS => ?_)
       dsimp only [List.set] at HS
       exact by (
       refine ⟨⟨HS.nowO, HS.nowN.2.2, ⟨(HS.mu 6 rfl), (HS.mu 7 rfl), (HS.mu 8 rfl), (HS.mu 9 rfl), (HS.mu 10 rfl), trivial⟩⟩, ?_⟩
       obtain ⟨A49, c50, rfl⟩ := row_slice (HS.mu 2 rfl)
       refine WD.storeSL 7 HS 0 rfl rfl rfl rfl (oneL rfl) (by kernel_rfl) (ble_ rfl) (cs' := #[(.slice A49 t32.f0.length c50), vi t32.f1]) (by kernel_rfl) (fun w48 HS => ?_)
       dsimp only [List.set] at HS
       exact dd_ (wv_ iq X20 ⟨b39, b41, A44, t21, c45, A46, c47, A49, t32, c50, I37, I30, bl31, I28, rfl, H, HS⟩) ))
     · have HT_ := True.intro
       refine WDo.alloc (v := .agg #[sn, vi 0]) (cs := #[sn, vi 0]) 5 (w_none rfl) HS rfl (by kernel_rfl) rfl (fun b51 w52 hb51 HS => ?_)
       refine ⟨⟨HS.nowO, HS.nowN.2.2, ⟨(HS.mu 5 rfl), (HS.mu 6 rfl), (HS.mu 7 rfl), (HS.mu 8 rfl), (HS.mu 9 rfl), trivial⟩⟩, ?_⟩
       exact by (
       refine WD.alloc (v := .agg #[sn, sn]) (cs := #[sn, sn]) 4 (w_none rfl) HS rfl (by kernel_rfl) rfl (fun b53 w54 hb53 HS => ?_)
       refine ⟨⟨HS.nowO, HS.nowN.2.2, ⟨(HS.mu 6 rfl), (HS.mu 7 rfl), (HS.mu 8 rfl), (HS.mu 9 rfl), (HS.mu 10 rfl), trivial⟩⟩, ?_⟩
       obtain ⟨A56, c57, rfl⟩ := row_slice (HS.mu 5 rfl)
       obtain ⟨A58, c59, rfl⟩ := row_slice (HS.mu 3 rfl)
       refine WD.storeS 6 HS 0 rfl rfl rfl rfl (oneL rfl) (by kernel_rfl) (ble_ rfl) (cs' := #[(.slice A56 t21.f0.length c57), (.slice A58 t21.f1.length c59)]) (by kernel_rfl) (fun w55 HS => ?_)
       dsimp only [List.set] at HS
       refine ⟨⟨HS.nowO, HS.nowN.2.2, ⟨(HS.mu 6 rfl), (HS.mu 7 rfl), (HS.mu 8 rfl), (HS.mu 9 rfl), (HS.mu 10 rfl), trivial⟩⟩, ?_⟩
       obtain ⟨A61, c62, rfl⟩ := row_slice (HS.mu 2 rfl)
       exact by (
       refine WD.storeSL 7 HS 1 rfl rfl rfl rfl (oneL rfl) (by kernel_rfl) (ble_ rfl) (cs' := #[(.slice A61 t32.f0.length c62), vi t32.f1]) (by kernel_rfl) (fun w60 HS => ?_)
       dsimp only [List.set] at HS
       exact dd_ (wv_ iq X20 ⟨b53, b51, A56, t21, c57, A58, c59, A61, t32, c62, I37, I30, bl31, I28, rfl, H, (St.front (St.front (St.front (St.front (St.front (St.front (St.front (St.front (St.front (St.front (St.front HS 10 rfl) 10 rfl) 10 rfl) 10 rfl) 10 rfl) 10 rfl) 10 rfl) 10 rfl) 10 rfl) 9 rfl) 10 rfl)⟩) )))
   · have HT_ := True.intro
     refine WDo.alloc (v := .agg #[sn, sn]) (cs := #[sn, sn]) 4 (w_none rfl) HS rfl (by kernel_rfl) rfl (fun b63 w64 hb63 HS => ?_)
     refine ⟨⟨HS.nowO, HS.nowN.2, ⟨(HS.mu 4 rfl), (HS.mu 5 rfl), (HS.mu 6 rfl), (HS.mu 7 rfl), (HS.mu 8 rfl), trivial⟩⟩, ?_⟩
     refine two__ 3 5 ?_ ?_
     · have HT_ := True.intro
       exact by (
       obtain ⟨t65, ha66, H⟩ := bind_some H
       refine dco_ 3 (w_none rfl) func106 (impl_cloneTable.runs k (⟨x1.f0, x1.f1⟩ : S67) A1_0 c1_0 t65 _ (HS.getO 2 rfl) hc1_0 ha66) ?_
       clear ha66
       rintro _ w67 ⟨v68, bl69, rfl, hO_, hb⟩
       replace HS := HS.got hb hO_
       dsimp only [List.cons_append, List.nil_append] at HS
       clear hO_
       obtain ⟨I70, bl71, HS⟩ := HS.unseal (sz := 1) rfl
       exact by (
       replace HS := HS.freezeN 1 (p := (rF kI t65.f0 I70)) rfl (fun _ hP_ _ => RepsB.reps hP_)
       dsimp only [List.eraseIdx] at HS
       refine ⟨⟨HS.nowO, HS.nowN.2.2, ⟨(HS.mu 5 rfl), (HS.mu 6 rfl), (HS.mu 7 rfl), (HS.mu 8 rfl), (HS.mu 9 rfl), trivial⟩⟩, _, rfl, ?_⟩
       clear hb
       refine WD.alloc (v := .agg #[sn, vi 0]) (cs := #[sn, vi 0]) 5 (w_none rfl) HS rfl (by kernel_rfl) rfl (fun b72 w73 hb72 HS => ?_)
       refine ⟨⟨HS.nowO, HS.nowN.2.2, ⟨(HS.mu 6 rfl), (HS.mu 7 rfl), (HS.mu 8 rfl), (HS.mu 9 rfl), (HS.mu 10 rfl), trivial⟩⟩, ?_⟩
       obtain ⟨A75, c76, rfl⟩ := row_slice (HS.mu 5 rfl)
       obtain ⟨A77, c78, rfl⟩ := row_slice (HS.mu 3 rfl)
       exact by (
       refine WD.storeS 6 HS 2 rfl rfl rfl rfl (oneL rfl) (by kernel_rfl) (ble_ rfl) (cs' := #[(.slice A75 t21.f0.length c76), (.slice A77 t21.f1.length c78)]) (by kernel_rfl) (fun w74 HS => ?_)
       dsimp only [List.set] at HS
       refine ⟨⟨HS.nowO, HS.nowN.2.2, ⟨(HS.mu 6 rfl), (HS.mu 7 rfl), (HS.mu 8 rfl), (HS.mu 9 rfl), (HS.mu 10 rfl), trivial⟩⟩, ?_⟩
       obtain ⟨A80, c81, rfl⟩ := row_slice (HS.mu 1 rfl)
       refine WD.storeSL 7 HS 0 rfl rfl rfl rfl (oneL rfl) (by kernel_rfl) (ble_ rfl) (cs' := #[(.slice A80 t65.f0.length c81), vi t65.f1]) (by kernel_rfl) (fun w79 HS => ?_)
       dsimp only [List.set] at HS
       exact dd_ (wv_ iq X20 ⟨b63, b72, A75, t21, c76, A77, c78, A80, t65, c81, I70, I30, bl31, I28, rfl, H, (St.front (St.front (St.front (St.front (St.front (St.front (St.front (St.front (St.front (St.front (St.front HS 10 rfl) 10 rfl) 10 rfl) 10 rfl) 10 rfl) 10 rfl) 10 rfl) 10 rfl) 9 rfl) 10 rfl) 10 rfl)⟩) )))
     · have HT_ := True.intro
       exact by (
       refine WDo.alloc (v := .agg #[sn, vi 0]) (cs := #[sn, vi 0]) 5 (w_none rfl) HS rfl (by kernel_rfl) rfl (fun b82 w83 hb82 HS => ?_)
       refine ⟨⟨HS.nowO, HS.nowN.2, ⟨(HS.mu 5 rfl), (HS.mu 6 rfl), (HS.mu 7 rfl), (HS.mu 8 rfl), (HS.mu 9 rfl), trivial⟩⟩, ?_⟩
       obtain ⟨t84, ha85, H⟩ := bind_some H
       refine dc_ 3 (w_none rfl) func106 (impl_cloneTable.runs k (⟨x1.f0, x1.f1⟩ : S67) A1_0 c1_0 t84 _ (HS.getO 2 rfl) hc1_0 ha85) ?_
       clear ha85
       rintro _ w86 ⟨v87, bl88, rfl, hO_, hb⟩
       replace HS := HS.got hb hO_
       dsimp only [List.cons_append, List.nil_append] at HS
       exact by (
       clear hO_
       obtain ⟨I89, bl90, HS⟩ := HS.unseal (sz := 1) rfl
       replace HS := HS.freezeN 1 (p := (rF kI t84.f0 I89)) rfl (fun _ hP_ _ => RepsB.reps hP_)
       dsimp only [List.eraseIdx] at HS
       refine ⟨⟨HS.nowO, HS.nowN.2.2, ⟨(HS.mu 6 rfl), (HS.mu 7 rfl), (HS.mu 8 rfl), (HS.mu 9 rfl), (HS.mu 10 rfl), trivial⟩⟩, _, rfl, ?_⟩
       clear hb
       obtain ⟨A92, c93, rfl⟩ := row_slice (HS.mu 5 rfl)
       obtain ⟨A94, c95, rfl⟩ := row_slice (HS.mu 3 rfl)
       exact by (
       refine WD.storeS 6 HS 2 rfl rfl rfl rfl (oneL rfl) (by kernel_rfl) (ble_ rfl) (cs' := #[(.slice A92 t21.f0.length c93), (.slice A94 t21.f1.length c95)]) (by kernel_rfl) (fun w91 HS => ?_)
       dsimp only [List.set] at HS
       refine ⟨⟨HS.nowO, HS.nowN.2.2, ⟨(HS.mu 6 rfl), (HS.mu 7 rfl), (HS.mu 8 rfl), (HS.mu 9 rfl), (HS.mu 10 rfl), trivial⟩⟩, ?_⟩
       obtain ⟨A97, c98, rfl⟩ := row_slice (HS.mu 0 rfl)
       refine WD.storeSL 7 HS 1 rfl rfl rfl rfl (oneL rfl) (by kernel_rfl) (ble_ rfl) (cs' := #[(.slice A97 t84.f0.length c98), vi t84.f1]) (by kernel_rfl) (fun w96 HS => ?_)
       dsimp only [List.set] at HS
       exact dd_ (wv_ iq X20 ⟨b63, b82, A92, t21, c93, A94, c95, A97, t84, c98, I89, I30, bl31, I28, rfl, H, (St.front (St.front (St.front (St.front (St.front (St.front (St.front (St.front (St.front (St.front (St.front HS 10 rfl) 10 rfl) 10 rfl) 10 rfl) 10 rfl) 10 rfl) 10 rfl) 10 rfl) 8 rfl) 10 rfl) 10 rfl)⟩) )))
   · have HT_ := True.intro
     exact by (
     refine WDo.alloc (v := .agg #[sn, vi 0]) (cs := #[sn, vi 0]) 5 (w_none rfl) HS rfl (by kernel_rfl) rfl (fun b99 w100 hb99 HS => ?_)
     refine ⟨⟨HS.nowO, HS.nowN.2, ⟨(HS.mu 4 rfl), (HS.mu 5 rfl), (HS.mu 6 rfl), (HS.mu 7 rfl), (HS.mu 8 rfl), trivial⟩⟩, ?_⟩
     refine two__ 3 4 ?_ ?_
     · have HT_ := True.intro
       obtain ⟨t101, ha102, H⟩ := bind_some H
       refine dco_ 3 (w_none rfl) func106 (impl_cloneTable.runs k (⟨x1.f0, x1.f1⟩ : S67) A1_0 c1_0 t101 _ (HS.getO 2 rfl) hc1_0 ha102) ?_
       clear ha102
       rintro _ w103 ⟨v104, bl105, rfl, hO_, hb⟩
       exact by (
       replace HS := HS.got hb hO_
       dsimp only [List.cons_append, List.nil_append] at HS
       clear hO_
       obtain ⟨I106, bl107, HS⟩ := HS.unseal (sz := 1) rfl
       replace HS := HS.freezeN 1 (p := (rF kI t101.f0 I106)) rfl (fun _ hP_ _ => RepsB.reps hP_)
       dsimp only [List.eraseIdx] at HS
       refine ⟨⟨HS.nowO, HS.nowN.2.2, ⟨(HS.mu 5 rfl), (HS.mu 6 rfl), (HS.mu 7 rfl), (HS.mu 8 rfl), (HS.mu 9 rfl), trivial⟩⟩, _, rfl, ?_⟩
       clear hb
       exact by (
       refine WD.alloc (v := .agg #[sn, sn]) (cs := #[sn, sn]) 4 (w_none rfl) HS rfl (by kernel_rfl) rfl (fun b108 w109 hb108 HS => ?_)
       refine ⟨⟨HS.nowO, HS.nowN.2.2, ⟨(HS.mu 6 rfl), (HS.mu 7 rfl), (HS.mu 8 rfl), (HS.mu 9 rfl), (HS.mu 10 rfl), trivial⟩⟩, ?_⟩
       obtain ⟨A111, c112, rfl⟩ := row_slice (HS.mu 5 rfl)
       obtain ⟨A113, c114, rfl⟩ := row_slice (HS.mu 3 rfl)
       refine WD.storeS 6 HS 0 rfl rfl rfl rfl (oneL rfl) (by kernel_rfl) (ble_ rfl) (cs' := #[(.slice A111 t21.f0.length c112), (.slice A113 t21.f1.length c114)]) (by kernel_rfl) (fun w110 HS => ?_)
       dsimp only [List.set] at HS
       refine ⟨⟨HS.nowO, HS.nowN.2.2, ⟨(HS.mu 6 rfl), (HS.mu 7 rfl), (HS.mu 8 rfl), (HS.mu 9 rfl), (HS.mu 10 rfl), trivial⟩⟩, ?_⟩
       obtain ⟨A116, c117, rfl⟩ := row_slice (HS.mu 1 rfl)
       exact by (
       refine WD.storeSL 7 HS 2 rfl rfl rfl rfl (oneL rfl) (by kernel_rfl) (ble_ rfl) (cs' := #[(.slice A116 t101.f0.length c117), vi t101.f1]) (by kernel_rfl) (fun w115 HS => ?_)
       dsimp only [List.set] at HS
       exact dd_ (wv_ iq X20 ⟨b108, b99, A111, t21, c112, A113, c114, A116, t101, c117, I106, I30, bl31, I28, rfl, H, (St.front (St.front (St.front (St.front (St.front (St.front (St.front (St.front (St.front (St.front (St.front HS 10 rfl) 10 rfl) 10 rfl) 10 rfl) 10 rfl) 10 rfl) 10 rfl) 10 rfl) 9 rfl) 9 rfl) 10 rfl)⟩) )))
     · have HT_ := True.intro
       refine WDo.alloc (v := .agg #[sn, sn]) (cs := #[sn, sn]) 4 (w_none rfl) HS rfl (by kernel_rfl) rfl (fun b118 w119 hb118 HS => ?_)
       refine ⟨⟨HS.nowO, HS.nowN.2, ⟨(HS.mu 5 rfl), (HS.mu 6 rfl), (HS.mu 7 rfl), (HS.mu 8 rfl), (HS.mu 9 rfl), trivial⟩⟩, ?_⟩
       obtain ⟨t120, ha121, H⟩ := bind_some H
       refine dc_ 3 (w_none rfl) func106 (impl_cloneTable.runs k (⟨x1.f0, x1.f1⟩ : S67) A1_0 c1_0 t120 _ (HS.getO 2 rfl) hc1_0 ha121) ?_
       exact by (
       clear ha121
       rintro _ w122 ⟨v123, bl124, rfl, hO_, hb⟩
       replace HS := HS.got hb hO_
       dsimp only [List.cons_append, List.nil_append] at HS
       clear hO_
       obtain ⟨I125, bl126, HS⟩ := HS.unseal (sz := 1) rfl
       replace HS := HS.freezeN 1 (p := (rF kI t120.f0 I125)) rfl (fun _ hP_ _ => RepsB.reps hP_)
       dsimp only [List.eraseIdx] at HS
       exact by (
       refine ⟨⟨HS.nowO, HS.nowN.2.2, ⟨(HS.mu 6 rfl), (HS.mu 7 rfl), (HS.mu 8 rfl), (HS.mu 9 rfl), (HS.mu 10 rfl), trivial⟩⟩, _, rfl, ?_⟩
       clear hb
       obtain ⟨A128, c129, rfl⟩ := row_slice (HS.mu 5 rfl)
       obtain ⟨A130, c131, rfl⟩ := row_slice (HS.mu 3 rfl)
       refine WD.storeS 6 HS 1 rfl rfl rfl rfl (oneL rfl) (by kernel_rfl) (ble_ rfl) (cs' := #[(.slice A128 t21.f0.length c129), (.slice A130 t21.f1.length c131)]) (by kernel_rfl) (fun w127 HS => ?_)
       dsimp only [List.set] at HS
       refine ⟨⟨HS.nowO, HS.nowN.2.2, ⟨(HS.mu 6 rfl), (HS.mu 7 rfl), (HS.mu 8 rfl), (HS.mu 9 rfl), (HS.mu 10 rfl), trivial⟩⟩, ?_⟩
       obtain ⟨A133, c134, rfl⟩ := row_slice (HS.mu 0 rfl)
       exact by (
       refine WD.storeSL 7 HS 2 rfl rfl rfl rfl (oneL rfl) (by kernel_rfl) (ble_ rfl) (cs' := #[(.slice A133 t120.f0.length c134), vi t120.f1]) (by kernel_rfl) (fun w132 HS => ?_)
       dsimp only [List.set] at HS
       exact dd_ (wv_ iq X20 ⟨b118, b99, A128, t21, c129, A130, c131, A133, t120, c134, I125, I30, bl31, I28, rfl, H, (St.front (St.front (St.front (St.front (St.front (St.front (St.front (St.front (St.front (St.front (St.front HS 10 rfl) 10 rfl) 10 rfl) 10 rfl) 10 rfl) 10 rfl) 10 rfl) 10 rfl) 8 rfl) 9 rfl) 10 rfl)⟩) ))))))
 · have HT_ := True.intro
   refine WDo.alloc (v := .agg #[sn, sn]) (cs := #[sn, sn]) 4 (w_none rfl) HS rfl (by kernel_rfl) rfl (fun b135 w136 hb135 HS => ?_)
   refine ⟨⟨HS.nowO, HS.nowN, ⟨(HS.mu 1 rfl), (HS.mu 2 rfl), (HS.mu 3 rfl), (HS.mu 4 rfl), (HS.mu 5 rfl), trivial⟩⟩, ?_⟩
   refine two__ 1 5 ?_ ?_
   · have HT_ := True.intro
     exact by (
     obtain ⟨t137, ha138, H⟩ := bind_some H
     refine dco_ 1 (w_none rfl) func105 (impl_cloneStore.runs k (⟨x0.f0, x0.f1⟩ : S58) A0_0 c0_0 A0_1 c0_1 t137 _ (HS.getO 0 rfl) hc0_0 (HS.getO 1 rfl) hc0_1 ha138) ?_
     clear ha138
     rintro _ w139 ⟨v140, bl141, v142, bl143, rfl, hO_, hb⟩
     replace HS := HS.got hb hO_
     dsimp only [List.cons_append, List.nil_append] at HS
     clear hO_
     obtain ⟨I144, bl145, HS⟩ := HS.unseal (sz := 1) rfl
     exact by (
     replace HS := HS.freezeN 1 (p := (rF kI t137.f0 I144)) rfl (fun _ hP_ _ => RepsB.reps hP_)
     dsimp only [List.eraseIdx] at HS
     replace HS := HS.front 1 rfl
     dsimp only [List.eraseIdx] at HS
     obtain ⟨I146, bl147, HS⟩ := HS.unseal (sz := 1) rfl
     refine ⟨⟨HS.nowO, HS.nowN.2, ⟨(HS.mu 4 rfl), (HS.mu 5 rfl), (HS.mu 6 rfl), (HS.mu 7 rfl), (HS.mu 8 rfl), trivial⟩⟩, _, rfl, ?_⟩
     clear hb
     refine two__ 3 5 ?_ ?_
     · have HT_ := True.intro
       exact by (
       obtain ⟨t148, ha149, H⟩ := bind_some H
       refine dco_ 3 (w_none rfl) func106 (impl_cloneTable.runs k (⟨x1.f0, x1.f1⟩ : S67) A1_0 c1_0 t148 _ (HS.getO 2 rfl) hc1_0 ha149) ?_
       clear ha149
       rintro _ w150 ⟨v151, bl152, rfl, hO_, hb⟩
       replace HS := HS.got hb hO_
       dsimp only [List.cons_append, List.nil_append] at HS
       clear hO_
       obtain ⟨I153, bl154, HS⟩ := HS.unseal (sz := 1) rfl
       exact by (
       replace HS := HS.freezeN 1 (p := (rF kI t148.f0 I153)) rfl (fun _ hP_ _ => RepsB.reps hP_)
       dsimp only [List.eraseIdx] at HS
       refine ⟨⟨HS.nowO, HS.nowN.2.2, ⟨(HS.mu 5 rfl), (HS.mu 6 rfl), (HS.mu 7 rfl), (HS.mu 8 rfl), (HS.mu 9 rfl), trivial⟩⟩, _, rfl, ?_⟩
       clear hb
       refine WD.alloc (v := .agg #[sn, vi 0]) (cs := #[sn, vi 0]) 5 (w_none rfl) HS rfl (by kernel_rfl) rfl (fun b155 w156 hb155 HS => ?_)
       refine ⟨⟨HS.nowO, HS.nowN.2.2, ⟨(HS.mu 6 rfl), (HS.mu 7 rfl), (HS.mu 8 rfl), (HS.mu 9 rfl), (HS.mu 10 rfl), trivial⟩⟩, ?_⟩
       obtain ⟨A158, c159, rfl⟩ := row_slice (HS.mu 4 rfl)
       obtain ⟨A160, c161, rfl⟩ := row_slice (HS.mu 2 rfl)
       exact by (
       refine WD.storeS 6 HS 5 rfl rfl rfl rfl (oneL rfl) (by kernel_rfl) (ble_ rfl) (cs' := #[(.slice A158 t137.f0.length c159), (.slice A160 t137.f1.length c161)]) (by kernel_rfl) (fun w157 HS => ?_)
       dsimp only [List.set] at HS
       refine ⟨⟨HS.nowO, HS.nowN.2.2, ⟨(HS.mu 6 rfl), (HS.mu 7 rfl), (HS.mu 8 rfl), (HS.mu 9 rfl), (HS.mu 10 rfl), trivial⟩⟩, ?_⟩
       obtain ⟨A163, c164, rfl⟩ := row_slice (HS.mu 1 rfl)
       refine WD.storeSL 7 HS 0 rfl rfl rfl rfl (oneL rfl) (by kernel_rfl) (ble_ rfl) (cs' := #[(.slice A163 t148.f0.length c164), vi t148.f1]) (by kernel_rfl) (fun w162 HS => ?_)
       dsimp only [List.set] at HS
       exact dd_ (wv_ iq X20 ⟨b135, b155, A158, t137, c159, A160, c161, A163, t148, c164, I153, I146, bl147, I144, rfl, H, (St.front (St.front (St.front (St.front (St.front (St.front (St.front (St.front (St.front (St.front (St.front HS 10 rfl) 10 rfl) 10 rfl) 10 rfl) 10 rfl) 9 rfl) 9 rfl) 9 rfl) 9 rfl) 10 rfl) 10 rfl)⟩) )))
     · have HT_ := True.intro
       exact by (
       refine WDo.alloc (v := .agg #[sn, vi 0]) (cs := #[sn, vi 0]) 5 (w_none rfl) HS rfl (by kernel_rfl) rfl (fun b165 w166 hb165 HS => ?_)
       refine ⟨⟨HS.nowO, HS.nowN.2, ⟨(HS.mu 5 rfl), (HS.mu 6 rfl), (HS.mu 7 rfl), (HS.mu 8 rfl), (HS.mu 9 rfl), trivial⟩⟩, ?_⟩
       obtain ⟨t167, ha168, H⟩ := bind_some H
       refine dc_ 3 (w_none rfl) func106 (impl_cloneTable.runs k (⟨x1.f0, x1.f1⟩ : S67) A1_0 c1_0 t167 _ (HS.getO 2 rfl) hc1_0 ha168) ?_
       clear ha168
       rintro _ w169 ⟨v170, bl171, rfl, hO_, hb⟩
       replace HS := HS.got hb hO_
       dsimp only [List.cons_append, List.nil_append] at HS
       exact by (
       clear hO_
       obtain ⟨I172, bl173, HS⟩ := HS.unseal (sz := 1) rfl
       replace HS := HS.freezeN 1 (p := (rF kI t167.f0 I172)) rfl (fun _ hP_ _ => RepsB.reps hP_)
       dsimp only [List.eraseIdx] at HS
       refine ⟨⟨HS.nowO, HS.nowN.2.2, ⟨(HS.mu 6 rfl), (HS.mu 7 rfl), (HS.mu 8 rfl), (HS.mu 9 rfl), (HS.mu 10 rfl), trivial⟩⟩, _, rfl, ?_⟩
       clear hb
       obtain ⟨A175, c176, rfl⟩ := row_slice (HS.mu 4 rfl)
       obtain ⟨A177, c178, rfl⟩ := row_slice (HS.mu 2 rfl)
       exact by (
       refine WD.storeS 6 HS 5 rfl rfl rfl rfl (oneL rfl) (by kernel_rfl) (ble_ rfl) (cs' := #[(.slice A175 t137.f0.length c176), (.slice A177 t137.f1.length c178)]) (by kernel_rfl) (fun w174 HS => ?_)
       dsimp only [List.set] at HS
       refine ⟨⟨HS.nowO, HS.nowN.2.2, ⟨(HS.mu 6 rfl), (HS.mu 7 rfl), (HS.mu 8 rfl), (HS.mu 9 rfl), (HS.mu 10 rfl), trivial⟩⟩, ?_⟩
       obtain ⟨A180, c181, rfl⟩ := row_slice (HS.mu 0 rfl)
       refine WD.storeSL 7 HS 1 rfl rfl rfl rfl (oneL rfl) (by kernel_rfl) (ble_ rfl) (cs' := #[(.slice A180 t167.f0.length c181), vi t167.f1]) (by kernel_rfl) (fun w179 HS => ?_)
       dsimp only [List.set] at HS
       exact dd_ (wv_ iq X20 ⟨b135, b165, A175, t137, c176, A177, c178, A180, t167, c181, I172, I146, bl147, I144, rfl, H, (St.front (St.front (St.front (St.front (St.front (St.front (St.front (St.front (St.front (St.front (St.front HS 10 rfl) 10 rfl) 10 rfl) 10 rfl) 10 rfl) 9 rfl) 9 rfl) 9 rfl) 8 rfl) 10 rfl) 10 rfl)⟩) )))))
   · have HT_ := True.intro
     exact by (
     refine WDo.alloc (v := .agg #[sn, vi 0]) (cs := #[sn, vi 0]) 5 (w_none rfl) HS rfl (by kernel_rfl) rfl (fun b182 w183 hb182 HS => ?_)
     refine ⟨⟨HS.nowO, HS.nowN, ⟨(HS.mu 2 rfl), (HS.mu 3 rfl), (HS.mu 4 rfl), (HS.mu 5 rfl), (HS.mu 6 rfl), trivial⟩⟩, ?_⟩
     obtain ⟨t184, ha185, H⟩ := bind_some H
     refine dc_ 1 (w_none rfl) func105 (impl_cloneStore.runs k (⟨x0.f0, x0.f1⟩ : S58) A0_0 c0_0 A0_1 c0_1 t184 _ (HS.getO 0 rfl) hc0_0 (HS.getO 1 rfl) hc0_1 ha185) ?_
     clear ha185
     rintro _ w186 ⟨v187, bl188, v189, bl190, rfl, hO_, hb⟩
     replace HS := HS.got hb hO_
     dsimp only [List.cons_append, List.nil_append] at HS
     exact by (
     clear hO_
     obtain ⟨I191, bl192, HS⟩ := HS.unseal (sz := 1) rfl
     replace HS := HS.freezeN 1 (p := (rF kI t184.f0 I191)) rfl (fun _ hP_ _ => RepsB.reps hP_)
     dsimp only [List.eraseIdx] at HS
     replace HS := HS.front 1 rfl
     dsimp only [List.eraseIdx] at HS
     obtain ⟨I193, bl194, HS⟩ := HS.unseal (sz := 1) rfl
     refine ⟨⟨HS.nowO, HS.nowN.2, ⟨(HS.mu 5 rfl), (HS.mu 6 rfl), (HS.mu 7 rfl), (HS.mu 8 rfl), (HS.mu 9 rfl), trivial⟩⟩, _, rfl, ?_⟩
     exact by (
     clear hb
     obtain ⟨t195, ha196, H⟩ := bind_some H
     refine dc_ 3 (w_none rfl) func106 (impl_cloneTable.runs k (⟨x1.f0, x1.f1⟩ : S67) A1_0 c1_0 t195 _ (HS.getO 2 rfl) hc1_0 ha196) ?_
     clear ha196
     rintro _ w197 ⟨v198, bl199, rfl, hO_, hb⟩
     replace HS := HS.got hb hO_
     dsimp only [List.cons_append, List.nil_append] at HS
     clear hO_
     exact by (
     obtain ⟨I200, bl201, HS⟩ := HS.unseal (sz := 1) rfl
     replace HS := HS.freezeN 1 (p := (rF kI t195.f0 I200)) rfl (fun _ hP_ _ => RepsB.reps hP_)
     dsimp only [List.eraseIdx] at HS
     refine ⟨⟨HS.nowO, HS.nowN.2.2, ⟨(HS.mu 6 rfl), (HS.mu 7 rfl), (HS.mu 8 rfl), (HS.mu 9 rfl), (HS.mu 10 rfl), trivial⟩⟩, _, rfl, ?_⟩
     clear hb
     obtain ⟨A203, c204, rfl⟩ := row_slice (HS.mu 3 rfl)
     obtain ⟨A205, c206, rfl⟩ := row_slice (HS.mu 1 rfl)
     refine WD.storeS 6 HS 5 rfl rfl rfl rfl (oneL rfl) (by kernel_rfl) (ble_ rfl) (cs' := #[(.slice A203 t184.f0.length c204), (.slice A205 t184.f1.length c206)]) (by kernel_rfl) (fun w202 HS => ?_)
     exact by (
     dsimp only [List.set] at HS
     refine ⟨⟨HS.nowO, HS.nowN.2.2, ⟨(HS.mu 6 rfl), (HS.mu 7 rfl), (HS.mu 8 rfl), (HS.mu 9 rfl), (HS.mu 10 rfl), trivial⟩⟩, ?_⟩
     obtain ⟨A208, c209, rfl⟩ := row_slice (HS.mu 0 rfl)
     refine WD.storeSL 7 HS 4 rfl rfl rfl rfl (oneL rfl) (by kernel_rfl) (ble_ rfl) (cs' := #[(.slice A208 t195.f0.length c209), vi t195.f1]) (by kernel_rfl) (fun w207 HS => ?_)
     dsimp only [List.set] at HS
     exact dd_ (wv_ iq X20 ⟨b135, b182, A203, t184, c204, A205, c206, A208, t195, c209, I200, I193, bl194, I191, rfl, H, (St.front (St.front (St.front (St.front (St.front (St.front (St.front (St.front (St.front (St.front (St.front HS 10 rfl) 10 rfl) 10 rfl) 10 rfl) 10 rfl) 8 rfl) 8 rfl) 8 rfl) 8 rfl) 10 rfl) 10 rfl)⟩) )))))
 · have HT_ := True.intro
   refine WDo.alloc (v := .agg #[sn, vi 0]) (cs := #[sn, vi 0]) 5 (w_none rfl) HS rfl (by kernel_rfl) rfl (fun b210 w211 hb210 HS => ?_)
   exact by (
   refine ⟨⟨HS.nowO, HS.nowN, ⟨(HS.mu 1 rfl), (HS.mu 2 rfl), (HS.mu 3 rfl), (HS.mu 4 rfl), (HS.mu 5 rfl), trivial⟩⟩, ?_⟩
   refine two__ 1 4 ?_ ?_
   · have HT_ := True.intro
     obtain ⟨t212, ha213, H⟩ := bind_some H
     refine dco_ 1 (w_none rfl) func105 (impl_cloneStore.runs k (⟨x0.f0, x0.f1⟩ : S58) A0_0 c0_0 A0_1 c0_1 t212 _ (HS.getO 0 rfl) hc0_0 (HS.getO 1 rfl) hc0_1 ha213) ?_
     clear ha213
     rintro _ w214 ⟨v215, bl216, v217, bl218, rfl, hO_, hb⟩
     replace HS := HS.got hb hO_
     exact by (
     dsimp only [List.cons_append, List.nil_append] at HS
     clear hO_
     obtain ⟨I219, bl220, HS⟩ := HS.unseal (sz := 1) rfl
     replace HS := HS.freezeN 1 (p := (rF kI t212.f0 I219)) rfl (fun _ hP_ _ => RepsB.reps hP_)
     dsimp only [List.eraseIdx] at HS
     replace HS := HS.front 1 rfl
     dsimp only [List.eraseIdx] at HS
     obtain ⟨I221, bl222, HS⟩ := HS.unseal (sz := 1) rfl
     exact by (
     refine ⟨⟨HS.nowO, HS.nowN.2, ⟨(HS.mu 4 rfl), (HS.mu 5 rfl), (HS.mu 6 rfl), (HS.mu 7 rfl), (HS.mu 8 rfl), trivial⟩⟩, _, rfl, ?_⟩
     clear hb
     refine two__ 3 4 ?_ ?_
     · have HT_ := True.intro
       obtain ⟨t223, ha224, H⟩ := bind_some H
       refine dco_ 3 (w_none rfl) func106 (impl_cloneTable.runs k (⟨x1.f0, x1.f1⟩ : S67) A1_0 c1_0 t223 _ (HS.getO 2 rfl) hc1_0 ha224) ?_
       clear ha224
       rintro _ w225 ⟨v226, bl227, rfl, hO_, hb⟩
       exact by (
       replace HS := HS.got hb hO_
       dsimp only [List.cons_append, List.nil_append] at HS
       clear hO_
       obtain ⟨I228, bl229, HS⟩ := HS.unseal (sz := 1) rfl
       replace HS := HS.freezeN 1 (p := (rF kI t223.f0 I228)) rfl (fun _ hP_ _ => RepsB.reps hP_)
       dsimp only [List.eraseIdx] at HS
       refine ⟨⟨HS.nowO, HS.nowN.2.2, ⟨(HS.mu 5 rfl), (HS.mu 6 rfl), (HS.mu 7 rfl), (HS.mu 8 rfl), (HS.mu 9 rfl), trivial⟩⟩, _, rfl, ?_⟩
       clear hb
       exact by (
       refine WD.alloc (v := .agg #[sn, sn]) (cs := #[sn, sn]) 4 (w_none rfl) HS rfl (by kernel_rfl) rfl (fun b230 w231 hb230 HS => ?_)
       refine ⟨⟨HS.nowO, HS.nowN.2.2, ⟨(HS.mu 6 rfl), (HS.mu 7 rfl), (HS.mu 8 rfl), (HS.mu 9 rfl), (HS.mu 10 rfl), trivial⟩⟩, ?_⟩
       obtain ⟨A233, c234, rfl⟩ := row_slice (HS.mu 4 rfl)
       obtain ⟨A235, c236, rfl⟩ := row_slice (HS.mu 2 rfl)
       refine WD.storeS 6 HS 0 rfl rfl rfl rfl (oneL rfl) (by kernel_rfl) (ble_ rfl) (cs' := #[(.slice A233 t212.f0.length c234), (.slice A235 t212.f1.length c236)]) (by kernel_rfl) (fun w232 HS => ?_)
       dsimp only [List.set] at HS
       refine ⟨⟨HS.nowO, HS.nowN.2.2, ⟨(HS.mu 6 rfl), (HS.mu 7 rfl), (HS.mu 8 rfl), (HS.mu 9 rfl), (HS.mu 10 rfl), trivial⟩⟩, ?_⟩
       obtain ⟨A238, c239, rfl⟩ := row_slice (HS.mu 1 rfl)
       exact by (
       refine WD.storeSL 7 HS 5 rfl rfl rfl rfl (oneL rfl) (by kernel_rfl) (ble_ rfl) (cs' := #[(.slice A238 t223.f0.length c239), vi t223.f1]) (by kernel_rfl) (fun w237 HS => ?_)
       dsimp only [List.set] at HS
       exact dd_ (wv_ iq X20 ⟨b230, b210, A233, t212, c234, A235, c236, A238, t223, c239, I228, I221, bl222, I219, rfl, H, (St.front (St.front (St.front (St.front (St.front (St.front (St.front (St.front (St.front (St.front (St.front HS 10 rfl) 10 rfl) 10 rfl) 10 rfl) 10 rfl) 9 rfl) 9 rfl) 9 rfl) 9 rfl) 9 rfl) 10 rfl)⟩) )))
     · have HT_ := True.intro
       refine WDo.alloc (v := .agg #[sn, sn]) (cs := #[sn, sn]) 4 (w_none rfl) HS rfl (by kernel_rfl) rfl (fun b240 w241 hb240 HS => ?_)
       refine ⟨⟨HS.nowO, HS.nowN.2, ⟨(HS.mu 5 rfl), (HS.mu 6 rfl), (HS.mu 7 rfl), (HS.mu 8 rfl), (HS.mu 9 rfl), trivial⟩⟩, ?_⟩
       obtain ⟨t242, ha243, H⟩ := bind_some H
       refine dc_ 3 (w_none rfl) func106 (impl_cloneTable.runs k (⟨x1.f0, x1.f1⟩ : S67) A1_0 c1_0 t242 _ (HS.getO 2 rfl) hc1_0 ha243) ?_
       exact by (
       clear ha243
       rintro _ w244 ⟨v245, bl246, rfl, hO_, hb⟩
       replace HS := HS.got hb hO_
       dsimp only [List.cons_append, List.nil_append] at HS
       clear hO_
       obtain ⟨I247, bl248, HS⟩ := HS.unseal (sz := 1) rfl
       replace HS := HS.freezeN 1 (p := (rF kI t242.f0 I247)) rfl (fun _ hP_ _ => RepsB.reps hP_)
       dsimp only [List.eraseIdx] at HS
       exact by (
       refine ⟨⟨HS.nowO, HS.nowN.2.2, ⟨(HS.mu 6 rfl), (HS.mu 7 rfl), (HS.mu 8 rfl), (HS.mu 9 rfl), (HS.mu 10 rfl), trivial⟩⟩, _, rfl, ?_⟩
       clear hb
       obtain ⟨A250, c251, rfl⟩ := row_slice (HS.mu 4 rfl)
       obtain ⟨A252, c253, rfl⟩ := row_slice (HS.mu 2 rfl)
       refine WD.storeS 6 HS 1 rfl rfl rfl rfl (oneL rfl) (by kernel_rfl) (ble_ rfl) (cs' := #[(.slice A250 t212.f0.length c251), (.slice A252 t212.f1.length c253)]) (by kernel_rfl) (fun w249 HS => ?_)
       dsimp only [List.set] at HS
       refine ⟨⟨HS.nowO, HS.nowN.2.2, ⟨(HS.mu 6 rfl), (HS.mu 7 rfl), (HS.mu 8 rfl), (HS.mu 9 rfl), (HS.mu 10 rfl), trivial⟩⟩, ?_⟩
       obtain ⟨A255, c256, rfl⟩ := row_slice (HS.mu 0 rfl)
       exact by (
       refine WD.storeSL 7 HS 5 rfl rfl rfl rfl (oneL rfl) (by kernel_rfl) (ble_ rfl) (cs' := #[(.slice A255 t242.f0.length c256), vi t242.f1]) (by kernel_rfl) (fun w254 HS => ?_)
       dsimp only [List.set] at HS
       exact dd_ (wv_ iq X20 ⟨b240, b210, A250, t212, c251, A252, c253, A255, t242, c256, I247, I221, bl222, I219, rfl, H, (St.front (St.front (St.front (St.front (St.front (St.front (St.front (St.front (St.front (St.front (St.front HS 10 rfl) 10 rfl) 10 rfl) 10 rfl) 10 rfl) 9 rfl) 9 rfl) 9 rfl) 8 rfl) 9 rfl) 10 rfl)⟩) )))))
   · have HT_ := True.intro
     refine WDo.alloc (v := .agg #[sn, sn]) (cs := #[sn, sn]) 4 (w_none rfl) HS rfl (by kernel_rfl) rfl (fun b257 w258 hb257 HS => ?_)
     refine ⟨⟨HS.nowO, HS.nowN, ⟨(HS.mu 2 rfl), (HS.mu 3 rfl), (HS.mu 4 rfl), (HS.mu 5 rfl), (HS.mu 6 rfl), trivial⟩⟩, ?_⟩
     obtain ⟨t259, ha260, H⟩ := bind_some H
     refine dc_ 1 (w_none rfl) func105 (impl_cloneStore.runs k (⟨x0.f0, x0.f1⟩ : S58) A0_0 c0_0 A0_1 c0_1 t259 _ (HS.getO 0 rfl) hc0_0 (HS.getO 1 rfl) hc0_1 ha260) ?_
     exact by (
     clear ha260
     rintro _ w261 ⟨v262, bl263, v264, bl265, rfl, hO_, hb⟩
     replace HS := HS.got hb hO_
     dsimp only [List.cons_append, List.nil_append] at HS
     clear hO_
     obtain ⟨I266, bl267, HS⟩ := HS.unseal (sz := 1) rfl
     replace HS := HS.freezeN 1 (p := (rF kI t259.f0 I266)) rfl (fun _ hP_ _ => RepsB.reps hP_)
     dsimp only [List.eraseIdx] at HS
     exact by (
     replace HS := HS.front 1 rfl
     dsimp only [List.eraseIdx] at HS
     obtain ⟨I268, bl269, HS⟩ := HS.unseal (sz := 1) rfl
     refine ⟨⟨HS.nowO, HS.nowN.2, ⟨(HS.mu 5 rfl), (HS.mu 6 rfl), (HS.mu 7 rfl), (HS.mu 8 rfl), (HS.mu 9 rfl), trivial⟩⟩, _, rfl, ?_⟩
     clear hb
     obtain ⟨t270, ha271, H⟩ := bind_some H
     refine dc_ 3 (w_none rfl) func106 (impl_cloneTable.runs k (⟨x1.f0, x1.f1⟩ : S67) A1_0 c1_0 t270 _ (HS.getO 2 rfl) hc1_0 ha271) ?_
     clear ha271
     exact by (
     rintro _ w272 ⟨v273, bl274, rfl, hO_, hb⟩
     replace HS := HS.got hb hO_
     dsimp only [List.cons_append, List.nil_append] at HS
     clear hO_
     obtain ⟨I275, bl276, HS⟩ := HS.unseal (sz := 1) rfl
     replace HS := HS.freezeN 1 (p := (rF kI t270.f0 I275)) rfl (fun _ hP_ _ => RepsB.reps hP_)
     dsimp only [List.eraseIdx] at HS
     refine ⟨⟨HS.nowO, HS.nowN.2.2, ⟨(HS.mu 6 rfl), (HS.mu 7 rfl), (HS.mu 8 rfl), (HS.mu 9 rfl), (HS.mu 10 rfl), trivial⟩⟩, _, rfl, ?_⟩
     exact by (
     clear hb
     obtain ⟨A278, c279, rfl⟩ := row_slice (HS.mu 3 rfl)
     obtain ⟨A280, c281, rfl⟩ := row_slice (HS.mu 1 rfl)
     refine WD.storeS 6 HS 4 rfl rfl rfl rfl (oneL rfl) (by kernel_rfl) (ble_ rfl) (cs' := #[(.slice A278 t259.f0.length c279), (.slice A280 t259.f1.length c281)]) (by kernel_rfl) (fun w277 HS => ?_)
     dsimp only [List.set] at HS
     refine ⟨⟨HS.nowO, HS.nowN.2.2, ⟨(HS.mu 6 rfl), (HS.mu 7 rfl), (HS.mu 8 rfl), (HS.mu 9 rfl), (HS.mu 10 rfl), trivial⟩⟩, ?_⟩
     obtain ⟨A283, c284, rfl⟩ := row_slice (HS.mu 0 rfl)
     refine WD.storeSL 7 HS 5 rfl rfl rfl rfl (oneL rfl) (by kernel_rfl) (ble_ rfl) (cs' := #[(.slice A283 t270.f0.length c284), vi t270.f1]) (by kernel_rfl) (fun w282 HS => ?_)
     exact by (
     dsimp only [List.set] at HS
     exact dd_ (wv_ iq X20 ⟨b257, b210, A278, t259, c279, A280, c281, A283, t270, c284, I275, I268, bl269, I266, rfl, H, (St.front (St.front (St.front (St.front (St.front (St.front (St.front (St.front (St.front (St.front (St.front HS 10 rfl) 10 rfl) 10 rfl) 10 rfl) 10 rfl) 8 rfl) 8 rfl) 8 rfl) 8 rfl) 9 rfl) 10 rfl)⟩) ))))))))))
end Go.Proofs.Ytlpginalgdbopaa.PFnExactAddCell
