/- Functions that the statement reaches, as Lean functions, and the proof that a call of each comes to just its answer; written by this claim's own program. No conditions. -/
import Derived.Test.YtbdbadkinjbpcaaGFnFiles2
namespace Go.Proofs.Ytbdbadkinjbpcaa.PFnFiles
open Try
open Go.RowKit Go.Proofs.YtbdbadkinjbpcaaW.PrintWords Go.Proofs.YtbdbadkinjbpcaaW.PrintLast Go.Proofs.YtbdbadkinjbpcaaW.PrintMore Go.Proofs.Ytbdbadkinjbpcaa.XW Go.Proofs.Ytbdbadkinjbpcaa.XOp Go.Proofs.Ytbdbadkinjbpcaa.XSt Go.Proofs.Ytbdbadkinjbpcaa.XDraw
set_option linter.unusedVariables false
set_option linter.unusedSimpArgs false
set_option maxHeartbeats 4000000
set_option maxRecDepth 20000
def impl_ModelOk.g (k : Nat) (x0 : S33) : Option Bool := ((impl_isWidth.f x0.f0).bind fun t7 => (if t7 = true then ((impl_in.f x0.f1 1 2).bind fun t11 => (if t11 = true then ((iMO1.g k x0.f3).bind fun t19 => (if t19 = true then ((impl_Vocab.g k x0).bind fun t27 => (if (x0.f4.length : Int) = t27 then ((impl_in.f (x0.f5.length : Int) 1 2).bind fun t35 => (if t35 = true then ((slices_ContainsFunc_int_int_49.g k x0.f4 x0).bind fun t41 => (if t41 = true then (some false) else ((sL521.g k x0.f5 x0).bind fun t48 => (if t48 = true then (some false) else ((impl_GainOk.g k x0.f6 x0.f0).bind fun t59 => (if t59 = true then ((impl_Vocab.g k x0).bind fun t71 => ((iwithi.g k x0.f7 x0.f0 t71).bind fun t74 => (if t74 = true then (if x0.f1 ≠ 0 then ((impl_TurnsOk.g k x0.f8 x0.f2 (wrap64 (Int.tdiv (wrap64 (Int.tdiv x0.f0 x0.f1)) 2))).bind fun t87 => (some t87)) else none) else (some false)))) else (some false))))))) else (some false))) else (some false))) else (some false))) else (some false))) else (some false)))
theorem impl_ModelOk.runs (k : Nat) (cs0 : List Value) (x0 : S33) (r : Bool) (w : World) (hk0 : k33.K w x0 cs0) (H : impl_ModelOk.g k x0 = some r) :
   Calls prog 16 #[.agg cs0.toArray] w fun e w' => e = .returned (.bool r) ∧ Below w.heap.size w w' := by
 have el0 : cs0.length = 14 := k33.K_len hk0
 unfold impl_ModelOk.g at H
 have HS : St (fun _ => True) w w [] [(kF k33 x0 cs0)] [] := St.start (foot_cons (foot_K h33 hk0) foot_nil)
 refine cw_ (n := 69) func16 fun R_ hR_ => ?_
 refine sr_ fun _ hK1 => ?_
 refine bo_ HS (fun b2 w3 hb2 HS => ?_)
 refine ad_ hK1 ?_
 refine WC.seq fun _ hK4 => ?_
 refine WC.seq fun _ hK5 => ?_
 refine WC.drawS HS [] rfl rfl (fun w6 HS => ?_)
 have HB := Below.refl w6.heap.size w6
 have HSW := HS
 refine df_ 0 underlying33 ?_
 refine bl_ 1 HS (Below.refl _ _) 0 underlying3 (at33_0 (HS.aO 0 rfl)).int ?_
 obtain ⟨t7, ha8, H⟩ := bind_some H
 refine dcs0_ HS HB 2 (w_none rfl) func44 (impl_isWidth.calls x0.f0 t7 _ ha8) (fun w9 HS HB => ?_)
 clear ha8
 refine dp_ 3 (fun _ => Run.not rfl rfl) ?_
 refine dm_ 4 ?_
 rcases eti_ H with ⟨c10, H⟩ | ⟨c10, H⟩
 · refine doT_ 5 (nB (bF c10)) ?_
   refine doT_ 6 (nB (bF c10)) ?_
   refine doT_ 7 (nB (bF c10)) ?_
   refine doT_ 8 (nB (bF c10)) ?_
   refine dp_ 9 (fun _ => Run.pickT rfl rfl (nB (bF c10)) rfl) ?_
   refine dm_ 10 ?_
   refine doT_ 11 rfl ?_
   refine doT_ 12 rfl ?_
   refine doT_ 13 rfl ?_
   refine doT_ 14 rfl ?_
   refine dp_ 15 (fun _ => Run.pickT rfl rfl rfl rfl) ?_
   refine dm_ 16 ?_
   refine doT_ 17 rfl ?_
   refine doT_ 18 rfl ?_
   refine doT_ 19 rfl ?_
   refine doT_ 20 rfl ?_
   refine doT_ 21 rfl ?_
   refine doT_ 22 rfl ?_
   refine dp_ 23 (fun _ => Run.pickT rfl rfl rfl rfl) ?_
   refine dm_ 24 ?_
   refine doT_ 25 rfl ?_
   refine doT_ 26 rfl ?_
   refine doT_ 27 rfl ?_
   refine doT_ 28 rfl ?_
   refine doT_ 29 rfl ?_
   refine dp_ 30 (fun _ => Run.pickT rfl rfl rfl rfl) ?_
   refine dd_ ?_
   clear HB HSW
   refine via_ hK5 (wy_ rfl ?_)
   refine sr_ fun _ hK94 => ?_
   refine ad_ hK94 ?_
   obtain rfl := os H
   exact rt1 Try.f16 rfl rfl hR_ ⟨rfl, HS.b⟩
 refine dfg_ 5 (nB c10) underlying33 ?_
 refine blg_ 6 (nB c10) HSW HB 0 underlying3 (at33_1 (HSW.aO 0 rfl)).int ?_
 obtain ⟨t11, ha12, H⟩ := bind_some H
 refine dcs0_ HS HB 7 (w_on rfl rfl rfl (nB c10)) func45 (impl_in.calls x0.f1 1 2 t11 _ ha12) (fun w13 HS HB => ?_)
 clear ha12
 refine dg_ 8 (nB c10) (fun _ => Run.not rfl rfl) ?_
 refine dp_ 9 (fun _ => Run.pickF rfl rfl (nB c10) rfl) ?_
 refine dm_ 10 ?_
 rcases eti_ H with ⟨c14, H⟩ | ⟨c14, H⟩
 · refine doT_ 11 (nB (bF c14)) ?_
   refine doT_ 12 (nB (bF c14)) ?_
   refine doT_ 13 (nB (bF c14)) ?_
   refine doT_ 14 (nB (bF c14)) ?_
   refine dp_ 15 (fun _ => Run.pickT rfl rfl (nB (bF c14)) rfl) ?_
   refine dm_ 16 ?_
   refine doT_ 17 rfl ?_
   refine doT_ 18 rfl ?_
   refine doT_ 19 rfl ?_
   refine doT_ 20 rfl ?_
   refine doT_ 21 rfl ?_
   refine doT_ 22 rfl ?_
   refine dp_ 23 (fun _ => Run.pickT rfl rfl rfl rfl) ?_
   refine dm_ 24 ?_
   refine doT_ 25 rfl ?_
   refine doT_ 26 rfl ?_
   refine doT_ 27 rfl ?_
   refine doT_ 28 rfl ?_
   refine doT_ 29 rfl ?_
   refine dp_ 30 (fun _ => Run.pickT rfl rfl rfl rfl) ?_
   refine dd_ ?_
   clear HB HSW
   refine via_ hK5 (wy_ rfl ?_)
   refine sr_ fun _ hK93 => ?_
   refine ad_ hK93 ?_
   obtain rfl := os H
   exact rt1 Try.f16 rfl rfl hR_ ⟨rfl, HS.b⟩
 refine dfg_ 11 (nB c14) underlying33 ?_
 obtain ⟨A15, c16, hc17, le18, HS⟩ := HS.sO 0 rfl at33_3
 refine blg_ 12 (nB c14) HSW HB 0 underlying24 hc17 ?_
 obtain ⟨t19, ha20, H⟩ := bind_some H
 refine dcs_ HS HB 13 (w_on rfl rfl rfl (nB c14)) func46 (iMO1.runs k A15 c16 x0.f3 t19 _ (HS.getO 0 rfl) le18 ha20) (fun w21 HS HB => ?_)
 clear ha20
 refine dg_ 14 (nB c14) (fun _ => Run.not rfl rfl) ?_
 refine dp_ 15 (fun _ => Run.pickF rfl rfl (nB c14) rfl) ?_
 refine dm_ 16 ?_
 rcases eti_ H with ⟨c22, H⟩ | ⟨c22, H⟩
 · refine doT_ 17 (nB (bF c22)) ?_
   refine doT_ 18 (nB (bF c22)) ?_
   refine doT_ 19 (nB (bF c22)) ?_
   refine doT_ 20 (nB (bF c22)) ?_
   refine doT_ 21 (nB (bF c22)) ?_
   refine doT_ 22 (nB (bF c22)) ?_
   refine dp_ 23 (fun _ => Run.pickT rfl rfl (nB (bF c22)) rfl) ?_
   refine dm_ 24 ?_
   refine doT_ 25 rfl ?_
   refine doT_ 26 rfl ?_
   refine doT_ 27 rfl ?_
   refine doT_ 28 rfl ?_
   refine doT_ 29 rfl ?_
   refine dp_ 30 (fun _ => Run.pickT rfl rfl rfl rfl) ?_
   refine dd_ ?_
   clear HB HSW
   refine via_ hK5 (wy_ rfl ?_)
   refine sr_ fun _ hK92 => ?_
   refine ad_ hK92 ?_
   obtain rfl := os H
   exact rt1 Try.f16 rfl rfl hR_ ⟨rfl, HS.b⟩
 refine dfg_ 17 (nB c22) underlying33 ?_
 obtain ⟨A23, c24, hc25, le26, HS⟩ := HS.sO 1 rfl at33_4
 refine blg_ 18 (nB c22) HSW HB 0 underlying25 hc25 ?_
 refine dg_ 19 (nB c22) (fun _ => Run.len (ts := #[]) rfl underlying25 rfl) ?_
 refine dh_ 20 (nB c22) HB (fun w_ hw_ => Run.loadS (cs := cs0) rfl rfl underlying33 rfl (by rw [el0]; kernel_rfl) (box_part ((HSW.below hw_).mu 0 rfl) part_all)) ?_
 obtain ⟨t27, ha28, H⟩ := bind_some H
 refine dcs_ HS HB 21 (w_on rfl rfl rfl (nB c22)) func47 (impl_Vocab.runs k cs0 x0 t27 _ (HS.getO 2 rfl) ha28) (fun w29 HS HB => ?_)
 clear ha28
 refine dg_ 22 (nB c22) (fun _ => Run.bin rfl rfl rfl bin_neq) ?_
 refine dp_ 23 (fun _ => Run.pickF rfl rfl (nB c22) rfl) ?_
 refine dm_ 24 ?_
 rcases eti_ H with ⟨c30, H⟩ | ⟨c30, H⟩
 · refine doT_ 25 (qT c30) ?_
   refine doT_ 26 (qT c30) ?_
   refine doT_ 27 (qT c30) ?_
   refine doT_ 28 (qT c30) ?_
   refine doT_ 29 (qT c30) ?_
   refine dp_ 30 (fun _ => Run.pickT rfl rfl (qT c30) rfl) ?_
   refine dd_ ?_
   clear HB HSW
   refine via_ hK5 (wy_ rfl ?_)
   refine sr_ fun _ hK91 => ?_
   refine ad_ hK91 ?_
   obtain rfl := os H
   exact rt1 Try.f16 rfl rfl hR_ ⟨rfl, HS.b⟩
 refine dfg_ 25 (qF c30) underlying33 ?_
 obtain ⟨A31, c32, hc33, le34, HS⟩ := HS.sO 2 rfl at33_5
 refine blg_ 26 (qF c30) HSW HB 0 underlying26 hc33 ?_
 refine dg_ 27 (qF c30) (fun _ => Run.len (ts := #[]) rfl underlying26 rfl) ?_
 obtain ⟨t35, ha36, H⟩ := bind_some H
 refine dcs0_ HS HB 28 (w_on rfl rfl rfl (qF c30)) func45 (impl_in.calls (x0.f5.length : Int) 1 2 t35 _ ha36) (fun w37 HS HB => ?_)
 clear ha36
 refine dg_ 29 (qF c30) (fun _ => Run.not rfl rfl) ?_
 refine dp_ 30 (fun _ => Run.pickF rfl rfl (qF c30) rfl) ?_
 refine dd_ ?_
 clear HB HSW
 refine via_ hK5 ?_
 rcases eti_ H with ⟨c38, H⟩ | ⟨c38, H⟩
 · refine wy_ (nB (bF c38)) (sr_ fun _ hK90 => ?_)
   refine ad_ hK90 ?_
   obtain rfl := os H
   exact rt1 Try.f16 rfl rfl hR_ ⟨rfl, HS.b⟩
 refine wn_ (nB c38) (WC.skip (via_ hK4 (WC.seq fun _ hK39 => ?_)))
 refine sr_ fun _ hK40 => ?_
 refine v_ (fa_ underlying33) ?_
 refine v_ (lb_ (HS.mu 0 rfl) underlying25 hc25) ?_
 refine v_ (Run.makeFunc (cap := [.pointer (some ⟨b2, 0, none⟩)]) rfl rfl) ?_
 obtain ⟨t41, ha42, H⟩ := bind_some H
 refine cs_ HS func48 (slices_ContainsFunc_int_int_49.runs k A23 c24 x0.f4 b2 cs0 x0 t41 _ (HS.getO 1 rfl) le26 (HS.getO 3 rfl) (HS.mu 0 rfl) ha42) (fun w43 HS => ?_)
 clear ha42
 refine dn_ hK40 ?_
 rcases ite_ H with ⟨c44, H⟩ | ⟨c44, H⟩
 · refine wy_ c44 ?_
   refine sr_ fun _ hK45 => ?_
   refine ad_ hK45 ?_
   obtain rfl := os H
   exact rt1 Try.f16 rfl rfl hR_ ⟨rfl, HS.b⟩
 refine wn_ (bF c44) (WC.skip (via_ hK39 (WC.seq fun _ hK46 => ?_)))
 refine sr_ fun _ hK47 => ?_
 refine v_ (fa_ underlying33) ?_
 refine v_ (lb_ (HS.mu 0 rfl) underlying26 hc33) ?_
 refine v_ (Run.makeFunc (cap := [.pointer (some ⟨b2, 0, none⟩)]) rfl rfl) ?_
 obtain ⟨t48, ha49, H⟩ := bind_some H
 refine cs_ HS func51 (sL521.runs k A31 c32 x0.f5 b2 cs0 x0 t48 _ (HS.getO 0 rfl) le34 (HS.getO 3 rfl) (HS.mu 0 rfl) ha49) (fun w50 HS => ?_)
 clear ha49
 refine dn_ hK47 ?_
 rcases ite_ H with ⟨c51, H⟩ | ⟨c51, H⟩
 · refine wy_ c51 ?_
   refine sr_ fun _ hK52 => ?_
   refine ad_ hK52 ?_
   obtain rfl := os H
   exact rt1 Try.f16 rfl rfl hR_ ⟨rfl, HS.b⟩
 refine wn_ (bF c51) (WC.skip (via_ hK46 (WC.seq fun _ hK53 => ?_)))
 refine WC.drawS HS [] rfl rfl (fun w54 HS => ?_)
 have HB := Below.refl w54.heap.size w54
 have HSW := HS
 refine df_ 0 underlying33 ?_
 refine df_ 2 underlying33 ?_
 obtain ⟨A55, c56, hc57, le58, HS⟩ := HS.sO 3 rfl at33_6
 refine bl_ 1 HS (Below.refl _ _) 0 underlying27 hc57 ?_
 refine bl_ 3 HS (Below.refl _ _) 0 underlying3 (at33_0 (HS.aO 4 rfl)).int ?_
 obtain ⟨t59, ha60, H⟩ := bind_some H
 refine dcs_ HS HB 4 (w_none rfl) func54 (impl_GainOk.runs k A55 c56 x0.f6 x0.f0 t59 _ (HS.getO 0 rfl) le58 ha60) (fun w61 HS HB => ?_)
 clear ha60
 refine dm_ 5 ?_
 rcases eti_ H with ⟨c62, H⟩ | ⟨c62, H⟩
 · refine doF_ 6 (bF c62) ?_
   refine doF_ 7 (bF c62) ?_
   refine doF_ 8 (bF c62) ?_
   refine doF_ 9 (bF c62) ?_
   refine doF_ 10 (bF c62) ?_
   refine doF_ 11 (bF c62) ?_
   refine doF_ 12 (bF c62) ?_
   refine dp_ 13 (fun _ => Run.pickF rfl rfl (bF c62) rfl) ?_
   refine dm_ 14 ?_
   refine doF_ 15 rfl ?_
   refine doF_ 16 rfl ?_
   refine doF_ 17 rfl ?_
   refine doF_ 18 rfl ?_
   refine doF_ 19 rfl ?_
   refine doF_ 20 rfl ?_
   refine doF_ 21 rfl ?_
   refine doF_ 22 rfl ?_
   refine doF_ 23 rfl ?_
   refine doF_ 24 rfl ?_
   refine doF_ 25 rfl ?_
   refine dp_ 26 (fun _ => Run.pickF rfl rfl rfl rfl) ?_
   refine dp_ 27 (fun _ => Run.assign rfl rfl) ?_
   refine dd_ ?_
   clear HB HSW
   refine via_ hK53 ?_
   obtain rfl := os H
   exact rt1 Try.f16 rfl rfl hR_ ⟨rfl, HS.b⟩
 refine dfg_ 6 c62 underlying33 ?_
 refine dfg_ 8 c62 underlying33 ?_
 obtain ⟨A63, c64, hc65, le66, HS⟩ := HS.sO 4 rfl at33_8
 obtain ⟨A67, c68, hc69, le70, HS⟩ := HS.sO 5 rfl at33_9
 refine dh_ 7 c62 HB (fun w_ hw_ => Run.loadS (cs := [vi x0.f7.f0, .slice A63 x0.f7.f1.length c64, .slice A67 x0.f7.f2.length c68, vi x0.f7.f3, vi x0.f7.f4]) rfl rfl underlying29 rfl (by kernel_rfl) (box_part ((HSW.below hw_).mu 0 rfl) (part_cons (at33_7 ((HSW.below hw_).aO 3 rfl)).int (part_cons hc65 (part_cons hc69 (part_cons (at33_10 ((HSW.below hw_).aO 3 rfl)).int (part_cons (at33_11 ((HSW.below hw_).aO 3 rfl)).int part_nil))))))) ?_
 refine blg_ 9 c62 HSW HB 0 underlying3 (at33_0 (HSW.aO 3 rfl)).int ?_
 refine dh_ 10 c62 HB (fun w_ hw_ => Run.loadS (cs := cs0) rfl rfl underlying33 rfl (by rw [el0]; kernel_rfl) (box_part ((HSW.below hw_).mu 0 rfl) part_all)) ?_
 obtain ⟨t71, ha72, H⟩ := bind_some H
 refine dcs_ HS HB 11 (w_on rfl rfl rfl c62) func47 (impl_Vocab.runs k cs0 x0 t71 _ (HS.getO 6 rfl) ha72) (fun w73 HS HB => ?_)
 clear ha72
 obtain ⟨t74, ha75, H⟩ := bind_some H
 refine dcs_ HS HB 12 (w_on rfl rfl rfl c62) func55 (iwithi.runs k x0.f7 A63 c64 A67 c68 x0.f0 t71 t74 _ (HS.getO 1 rfl) le66 (HS.getO 0 rfl) le70 ha75) (fun w76 HS HB => ?_)
 clear ha75
 refine dp_ 13 (fun _ => Run.pickT rfl rfl c62 rfl) ?_
 refine dm_ 14 ?_
 rcases eti_ H with ⟨c77, H⟩ | ⟨c77, H⟩
 · refine doF_ 15 (bF c77) ?_
   refine doF_ 16 (bF c77) ?_
   refine doF_ 17 (bF c77) ?_
   refine doF_ 18 (bF c77) ?_
   refine doF_ 19 (bF c77) ?_
   refine doF_ 20 (bF c77) ?_
   refine doF_ 21 (bF c77) ?_
   refine doF_ 22 (bF c77) ?_
   refine doF_ 23 (bF c77) ?_
   refine doF_ 24 (bF c77) ?_
   refine doF_ 25 (bF c77) ?_
   refine dp_ 26 (fun _ => Run.pickF rfl rfl (bF c77) rfl) ?_
   refine dp_ 27 (fun _ => Run.assign rfl rfl) ?_
   refine dd_ ?_
   clear HB HSW
   refine via_ hK53 ?_
   obtain rfl := os H
   exact rt1 Try.f16 rfl rfl hR_ ⟨rfl, HS.b⟩
 refine dfg_ 15 c77 underlying33 ?_
 refine dfg_ 17 c77 underlying33 ?_
 refine dfg_ 19 c77 underlying33 ?_
 refine dfg_ 21 c77 underlying33 ?_
 obtain ⟨A78, c79, hc80, le81, HS⟩ := HS.sO 6 rfl at33_12
 obtain ⟨A82, c83, hc84, le85, HS⟩ := HS.sO 7 rfl at33_13
 refine dh_ 16 c77 HB (fun w_ hw_ => Run.loadS (cs := [.slice A78 x0.f8.f0.length c79, .slice A82 x0.f8.f1.length c83]) rfl rfl underlying31 rfl (by kernel_rfl) (box_part ((HSW.below hw_).mu 0 rfl) (part_cons hc80 (part_cons hc84 part_nil)))) ?_
 refine blg_ 18 c77 HSW HB 0 underlying3 (at33_2 (HSW.aO 3 rfl)).int ?_
 refine blg_ 20 c77 HSW HB 0 underlying3 (at33_0 (HSW.aO 3 rfl)).int ?_
 refine blg_ 22 c77 HSW HB 0 underlying3 (at33_1 (HSW.aO 3 rfl)).int ?_
 obtain ⟨z86, H⟩ := if_some H
 refine dg_ 23 c77 (fun _ => Run.bin rfl rfl rfl (bin_quo64 z86)) ?_
 refine dg_ 24 c77 (fun _ => Run.bin rfl rfl rfl (bin_quo64 (show (2 : Int) ≠ 0 by decide))) ?_
 obtain ⟨t87, ha88, H⟩ := bind_some H
 refine dcs_ HS HB 25 (w_on rfl rfl rfl c77) func56 (impl_TurnsOk.runs k x0.f8 A78 c79 A82 c83 x0.f2 (wrap64 (Int.tdiv (wrap64 (Int.tdiv x0.f0 x0.f1)) 2)) t87 _ (HS.getO 1 rfl) le81 (HS.getO 0 rfl) le85 ha88) (fun w89 HS HB => ?_)
 clear ha88
 refine dp_ 26 (fun _ => Run.pickT rfl rfl c77 rfl) ?_
 refine dp_ 27 (fun _ => Run.assign rfl rfl) ?_
 refine dd_ ?_
 clear HB HSW
 refine via_ hK53 ?_
 obtain rfl := os H
 exact rt1 Try.f16 rfl rfl hR_ ⟨rfl, HS.b⟩
def impl_isNibble.g (k : Nat) (a0 : Int) : Option Bool := ((impl_in.f a0 (-8) 7).bind fun t3 => (some t3))
theorem impl_isNibble.runs (k : Nat) (a0 : Int) (r : Bool) (w : World) (H : impl_isNibble.g k a0 = some r) :
   Calls prog 84 #[vi a0] w fun e w' => e = .returned (.bool r) ∧ Below w.heap.size w w' := by
 unfold impl_isNibble.g at H
 have HS : St (fun _ => True) w w [] [] [] := St.start foot_nil
 refine cw_ (n := 5) func84 fun R_ hR_ => ?_
 refine sr_ fun _ hK1 => ?_
 refine ad_ hK1 ?_
 refine sr_ fun _ hK2 => ?_
 refine mv_ ?_
 obtain ⟨t3, ha4, H⟩ := bind_some H
 refine cs0_ HS func45 (impl_in.calls a0 (-8) 7 t3 _ ha4) (fun w5 HS => ?_)
 clear ha4
 refine ad_ hK2 ?_
 obtain rfl := os H
 exact rt1 Try.f84 rfl rfl hR_ ⟨rfl, HS.b⟩
def impl_PackNibbles_1.g (k : Nat) (a0 : Int) : Option Bool := ((impl_isNibble.g k a0).bind fun t3 => (some (!t3)))
theorem impl_PackNibbles_1.runs (k : Nat) (a0 : Int) (r : Bool) (w : World) (H : impl_PackNibbles_1.g k a0 = some r) :
   Calls prog 83 #[vi a0] w fun e w' => e = .returned (.bool r) ∧ Below w.heap.size w w' := by
 unfold impl_PackNibbles_1.g at H
 have HS : St (fun _ => True) w w [] [] [] := St.start foot_nil
 refine cw_ (n := 6) func83 fun R_ hR_ => ?_
 refine sr_ fun _ hK1 => ?_
 refine ad_ hK1 ?_
 refine sr_ fun _ hK2 => ?_
 refine mv_ ?_
 obtain ⟨t3, ha4, H⟩ := bind_some H
 refine cs_ HS func84 (impl_isNibble.runs k a0 t3 _  ha4) (fun w5 HS => ?_)
 clear ha4
 refine nt_ ?_
 refine ad_ hK2 ?_
 obtain rfl := os H
 exact rt1 Try.f83 rfl rfl hR_ ⟨rfl, HS.b⟩
def sint83.b0 (l0 : List Int) (rec_ : Int → Option (Int ⊕ Int)) (k15 : Nat) (i8 : Int) : Option (Int ⊕ Int) := (if i8 < (l0.length : Int) then (if 0 ≤ i8 ∧ i8 < (l0.length : Int) then ((impl_PackNibbles_1.g k15 (l0.getD i8.toNat 0)).bind fun t25 => (if t25 = true then (some (Sum.inl i8)) else (rec_ (wrap64 (i8 + 1))))) else none) else (some (Sum.inr i8)))
def sint83.l0 (l0 : List Int) : Nat → Int → Option (Int ⊕ Int)
 | 0, _ => none
 | k + 1, i8 => sint83.b0 l0 (sint83.l0 l0 k) k i8
def sint83.g (k : Nat) (l0 : List Int) : Option Int := ((sint83.l0 l0 k 0).bind (fun oc13 => match oc13 with | .inl r_ => some r_ | .inr i8 => (some (-1))))
theorem sint83.runs (k : Nat) (A0 : Option Addr) (c0 : Nat) (l0 : List Int) (r : Int) (w : World) (hr0 : kI.C w A0 l0.length l0) (hc0 : l0.length ≤ c0) (H : sint83.g k l0 = some r) :
   Calls prog 94 #[.slice A0 l0.length c0, .func (.func 83) #[] #[]] w fun e w' => e = .returned (vi r) ∧ Below w.heap.size w w' := by
 unfold sint83.g at H
 have HS : St (fun _ => True) w w [] [(cF kI A0 l0)] [] := St.start (foot_cons (foot_C (Kd.heap_int _) hr0) foot_nil)
 refine cw_ (n := 19) func94 fun R_ hR_ => ?_
 refine sr_ fun _ hK1 => ?_
 refine ad_ hK1 ?_
 refine WC.seq fun K2 hK2 => ?_
 refine sr_ fun _ hK3 => ?_
 refine mv_ ?_
 refine ln_ underlying27 ?_
 refine mv_ ?_
 refine dn_ hK3 (WC.block ?_)
 obtain ⟨G4, hG5, oc6, H, Ho7⟩ := open_G H
 let J9 := fun (i8 : Int) (E_ : Env) (W_ : World) => E_ = [(0, .slice A0 l0.length c0), (1, .func (.func 83) #[] #[]), (7, vi (l0.length : Int)), (8, vi i8)] ∧ St (fun _ => True) w W_ [] [(cF kI A0 l0)] []
 have X10 : ∀ E_ W_, (∃ i8, G4 (Sum.inr i8) = some r ∧ J9 i8 E_ W_) → ∀ a, Fits a 19 E_ → K2 a W_ := by
   rintro E_ w11 ⟨i8, H, rfl, HS⟩
   rw [hG5] at H
   (try dsimp only at H)
   refine hK2 _ _ ?_
   refine sr_ fun _ hK12 => ?_
   refine ad_ hK12 ?_
   obtain rfl := os H
   exact rt1 Try.f94 rfl rfl hR_ ⟨rfl, HS.b⟩
 clear hK2
 refine WC.loop (fun k_ E_ W_ => ∃ i8, (∃ o_, sint83.l0 l0 k_ i8 = some o_ ∧ G4 o_ = some r) ∧ J9 i8 E_ W_) k ⟨0, ⟨_, H, Ho7⟩, rfl, HS⟩ (sb rfl) ?_
 rintro k_ E_ w14 ⟨i8, ⟨oc6, H, Ho7⟩, rfl, HS⟩
 rcases k_ with _ | k15
 · exact no_ H
 replace H : sint83.b0 l0 (sint83.l0 l0 k15) k15 i8 = some oc6 := H
 unfold sint83.b0 at H
 refine sr_ fun _ hK16 => ?_
 refine b_ bin_lss ?_
 refine dn_ hK16 (WC.seq fun _ hK17 => ?_)
 rcases eti_ H with ⟨c18, H⟩ | ⟨c18, H⟩
 · refine wn_ (dF c18) (WC.exit ?_)
   obtain rfl := os H
   exact wv_ iq X10 ⟨i8, Ho7, rfl, HS⟩
 refine wy_ (dT c18) (WC.skip (via_ hK17 (WC.seq fun _ hK19 => ?_)))
 refine WC.block (sr_ fun _ hK20 => ?_)
 refine mv_ ?_
 refine ad_ hK20 ?_
 refine sr_ fun _ hK21 => ?_
 refine mv_ ?_
 refine mv_ ?_
 refine mv_ ?_
 obtain ⟨⟨q22, q23⟩, H⟩ := if_some H
 obtain ⟨ad24, rfl⟩ := C_open (HS.getO 0 rfl) (by omega)
 refine v_ (ia_ underlying27 1 q22 q23) ?_
 refine v_ (Run.load rfl rfl underlying3 rfl (int_cell (HS.getO 0 rfl) i8 q22 q23)) ?_
 obtain ⟨t25, ha26, H⟩ := bind_some H
 refine cv_ (args := [vi (l0.getD i8.toNat 0)]) (cap := []) func83 (impl_PackNibbles_1.runs k15 (l0.getD i8.toNat 0) t25 _  ha26) ?_
 clear ha26
 rintro _ w27 ⟨rfl, hb⟩
 replace HS := HS.below hb
 refine ⟨_, rfl, ?_⟩
 clear hb
 refine dn_ hK21 ?_
 rcases eti_ H with ⟨c28, H⟩ | ⟨c28, H⟩
 · refine wn_ (bF c28) (WC.skip (via_ hK19 (rg_ (b_ bin_add64 ?_))))
   refine mv_ ?_
   refine WL.done ?_
   exact wr_ k15 iq ⟨(wrap64 (i8 + 1)), ⟨_, H, Ho7⟩, rfl, HS⟩
 refine wy_ c28 ?_
 refine sr_ fun _ hK29 => ?_
 refine mv_ ?_
 refine ad_ hK29 ?_
 refine WC.ret ?_
 obtain rfl := os H
 rw [hG5] at Ho7
 replace H : some _ = some _ := Ho7
 obtain rfl := os H
 exact fin1 Try.f94 rfl rfl hR_ ⟨rfl, HS.b⟩
def slices_ContainsFunc_int_int_83.g (k : Nat) (l0 : List Int) : Option Bool := ((sint83.g k l0).bind fun t3 => (some (decide (t3 ≥ 0))))
theorem slices_ContainsFunc_int_int_83.runs (k : Nat) (A0 : Option Addr) (c0 : Nat) (l0 : List Int) (r : Bool) (w : World) (hr0 : kI.C w A0 l0.length l0) (hc0 : l0.length ≤ c0) (H : slices_ContainsFunc_int_int_83.g k l0 = some r) :
   Calls prog 77 #[.slice A0 l0.length c0, .func (.func 83) #[] #[]] w fun e w' => e = .returned (.bool r) ∧ Below w.heap.size w w' := by
 unfold slices_ContainsFunc_int_int_83.g at H
 have HS : St (fun _ => True) w w [] [(cF kI A0 l0)] [] := St.start (foot_cons (foot_C (Kd.heap_int _) hr0) foot_nil)
 refine cw_ (n := 9) func77 fun R_ hR_ => ?_
 refine sr_ fun _ hK1 => ?_
 refine ad_ hK1 ?_
 refine sr_ fun _ hK2 => ?_
 refine mv_ ?_
 refine mv_ ?_
 obtain ⟨t3, ha4, H⟩ := bind_some H
 refine cs_ HS func94 (sint83.runs k A0 c0 l0 t3 _ (HS.getO 0 rfl) hc0 ha4) (fun w5 HS => ?_)
 clear ha4
 refine b_ bin_geq ?_
 refine ad_ hK2 ?_
 obtain rfl := os H
 exact rt1 Try.f77 rfl rfl hR_ ⟨rfl, HS.b⟩
def iPN.b0 (l0 : List Int) (rec_ : Int → (List Int) → Option (Int × (List Int))) (k37 : Nat) (i24 : Int) (xs25 : List Int) : Option (Int × (List Int)) := (if i24 < (l0.length : Int) then (if 0 ≤ i24 ∧ i24 < (l0.length : Int) then (if 0 ≤ (wrap64 (Int.tdiv i24 2)) ∧ (wrap64 (Int.tdiv i24 2)) < ((xs25.length : Nat) : Int) then (if 0 ≤ (wrap64 (4 * (Int.tmod i24 2))) then (rec_ (wrap64 (i24 + 1)) (xs25.set (wrap64 (Int.tdiv i24 2)).toNat (Go.bits .or .u8 (xs25.getD (wrap64 (Int.tdiv i24 2)).toNat 0) (shl .u8 (IntKind.u8.wrap (Go.bits .and .i64 (l0.getD i24.toNat 0) 15)) (wrap64 (4 * (Int.tmod i24 2))))))) else none) else none) else none) else (some (i24, xs25)))
def iPN.l0 (l0 : List Int) : Nat → Int → (List Int) → Option (Int × (List Int))
 | 0, _, _ => none
 | k + 1, i24, xs25 => iPN.b0 l0 (iPN.l0 l0 k) k i24 xs25
def iPN.g (k : Nat) (l0 : List Int) : Option (ByteArray × Bool) := (if (l0.length : Int) > 2400 then (some ((⟨#[]⟩ : ByteArray), false)) else ((slices_ContainsFunc_int_int_83.g k l0).bind fun t6 => (if t6 = true then (some ((⟨#[]⟩ : ByteArray), false)) else (if 0 ≤ (wrap64 (Int.tdiv (wrap64 ((l0.length : Int) + 1)) 2)) ∧ (wrap64 (Int.tdiv (wrap64 ((l0.length : Int) + 1)) 2)) < 4294967296 then ((iPN.l0 l0 k 0 (List.replicate (wrap64 (Int.tdiv (wrap64 ((l0.length : Int) + 1)) 2)).toNat 0)).bind (fun oc35 => (some ((strOfNums oc35.2), true)))) else none))))
theorem iPN.runs (k : Nat) (A0 : Option Addr) (c0 : Nat) (l0 : List Int) (r1 : ByteArray) (r2 : Bool) (w : World) (hr0 : kI.C w A0 l0.length l0) (hc0 : l0.length ≤ c0) (H : iPN.g k l0 = some (r1, r2)) :
   Calls prog 57 #[.slice A0 l0.length c0] w fun e w' => e = .returned (.tuple #[.string r1, .bool r2]) ∧ Below w.heap.size w w' := by
 unfold iPN.g at H
 have HS : St (fun _ => True) w w [] [(cF kI A0 l0)] [] := St.start (foot_cons (foot_C (Kd.heap_int _) hr0) foot_nil)
 refine cw_ (n := 43) func57 fun R_ hR_ => ?_
 refine sr_ fun _ hK1 => ?_
 refine as_ ?_
 refine ad_ hK1 ?_
 refine WC.seq fun _ hK2 => ?_
 refine sr_ fun _ hK3 => ?_
 refine mv_ ?_
 refine ln_ underlying27 ?_
 refine b_ bin_gtr ?_
 refine mv_ ?_
 rcases ite_ H with ⟨c4, H⟩ | ⟨c4, H⟩
 · refine off_ (c' := true) (dT c4) ?_
   refine off_ (c' := true) (dT c4) ?_
   refine v_ (Run.pickT rfl rfl (dT c4) rfl) ?_
   refine dn_ hK3 (wy_ rfl ?_)
   refine sr_ fun _ hK5 => ?_
   refine as_ ?_
   refine ad_ hK5 ?_
   obtain ⟨rfl, rfl⟩ := Prod.mk.inj (os H)
   exact rt2 Try.f57 rfl rfl rfl hR_ ⟨rfl, HS.b⟩
 refine on_ (dF c4) (mv_ ?_)
 refine on_ (dF c4) ?_
 obtain ⟨t6, ha7, H⟩ := bind_some H
 refine cs_ HS func77 (slices_ContainsFunc_int_int_83.runs k A0 c0 l0 t6 _ (HS.getO 0 rfl) hc0 ha7) (fun w8 HS => ?_)
 clear ha7
 refine v_ (Run.pickF rfl rfl (dF c4) rfl) ?_
 refine dn_ hK3 ?_
 rcases ite_ H with ⟨c9, H⟩ | ⟨c9, H⟩
 · refine wy_ c9 ?_
   refine sr_ fun _ hK10 => ?_
   refine as_ ?_
   refine ad_ hK10 ?_
   obtain ⟨rfl, rfl⟩ := Prod.mk.inj (os H)
   exact rt2 Try.f57 rfl rfl rfl hR_ ⟨rfl, HS.b⟩
 refine wn_ (bF c9) (WC.skip (via_ hK2 (sr_ fun _ hK11 => ?_)))
 refine mv_ ?_
 refine ln_ underlying27 ?_
 refine b_ bin_add64 ?_
 refine v_ (Run.bin rfl rfl rfl (bin_quo64 (show (2 : Int) ≠ 0 by decide))) ?_
 obtain ⟨⟨q12, q13⟩, H⟩ := if_some H
 refine WL.make kU HS rfl rfl (by decide) rfl rfl rfl (.int .u8 0) 1 0 underlying22 (by kernel_rfl) rfl (by decide) (by decide) (fun _ => (K_int _)) q12 (by omega) (fun v14 w15 I16 hI17 HS => ?_)
 replace HS := HS.deriveO (p := (rF kU (List.replicate (wrap64 (Int.tdiv (wrap64 ((l0.length : Int) + 1)) 2)).toNat 0) I16)) (fun W_ hO_ hN_ => hI17 W_)
 refine ad_ hK11 ?_
 refine WC.seq fun K18 hK18 => ?_
 refine sr_ fun _ hK19 => ?_
 refine mv_ ?_
 refine ln_ underlying27 ?_
 refine mv_ ?_
 refine dn_ hK19 (WC.block ?_)
 obtain ⟨G20, hG21, oc22, H, Ho23⟩ := open_G H
 let J28 := fun (i24 : Int) (xs25 : List Int) v26 I27 (E_ : Env) (W_ : World) => E_ = [(4, v26), (19, .slice A0 l0.length c0), (20, vi (l0.length : Int)), (21, vi i24)] ∧ St (fun _ => True) w W_ [rowM w.heap.size 5 1 v26 xs25.length I27] [(rF kU xs25 I27), (cF kI A0 l0)] []
 have X29 : ∀ E_ W_, (∃ i24 xs25 v26 I27, G20 (i24, xs25) = some (r1, r2) ∧ J28 i24 xs25 v26 I27 E_ W_) → ∀ a, Fits a 43 E_ → K18 a W_ := by
   rintro E_ w30 ⟨i24, xs25, v26, I27, H, rfl, HS⟩
   rw [hG21] at H
   (try dsimp only at H)
   refine hK18 _ _ ?_
   refine sr_ fun _ hK31 => ?_
   refine mv_ ?_
   obtain ⟨A32, c33, rfl⟩ := row_slice (HS.mu 0 rfl)
   have le34 := row_le (HS.mu 0 rfl)
   replace HS := HS.freezeO 0 (p := (cF kU A32 (xs25))) rfl (fun W_ hm_ h_ => row_C (by rfl) hm_ h_.1)
   dsimp only [List.eraseIdx] at HS
   refine v_ (Run.str (xs := xs25) rfl underlying22 underlying5 underlying9 rfl (HS.getO 0 rfl)) ?_
   refine as_ ?_
   refine ad_ hK31 ?_
   obtain ⟨rfl, rfl⟩ := Prod.mk.inj (os H)
   exact rt2 Try.f57 rfl rfl rfl hR_ ⟨rfl, HS.b⟩
 clear hK18
 refine WC.loop (fun k_ E_ W_ => ∃ i24 xs25 v26 I27, (∃ o_, iPN.l0 l0 k_ i24 xs25 = some o_ ∧ G20 o_ = some (r1, r2)) ∧ J28 i24 xs25 v26 I27 E_ W_) k ⟨0, (List.replicate (wrap64 (Int.tdiv (wrap64 ((l0.length : Int) + 1)) 2)).toNat 0), v14, I16, ⟨_, H, Ho23⟩, rfl, HS⟩ (sb rfl) ?_
 rintro k_ E_ w36 ⟨i24, xs25, v26, I27, ⟨oc22, H, Ho23⟩, rfl, HS⟩
 rcases k_ with _ | k37
 · exact no_ H
 replace H : iPN.b0 l0 (iPN.l0 l0 k37) k37 i24 xs25 = some oc22 := H
 unfold iPN.b0 at H
 refine sr_ fun _ hK38 => ?_
 refine b_ bin_lss ?_
 refine dn_ hK38 (WC.seq fun _ hK39 => ?_)
 rcases eti_ H with ⟨c40, H⟩ | ⟨c40, H⟩
 · refine wn_ (dF c40) (WC.exit ?_)
   obtain rfl := os H
   exact wv_ iq X29 ⟨i24, xs25, v26, I27, Ho23, rfl, HS⟩
 refine wy_ (dT c40) (WC.skip (via_ hK39 (WC.seq fun _ hK41 => ?_)))
 refine WC.block (sr_ fun _ hK42 => ?_)
 refine mv_ ?_
 obtain ⟨⟨q43, q44⟩, H⟩ := if_some H
 obtain ⟨ad45, rfl⟩ := C_open (HS.getO 1 rfl) (by omega)
 refine v_ (ia_ underlying27 1 q43 q44) ?_
 refine v_ (Run.load rfl rfl underlying3 rfl (int_cell (HS.getO 1 rfl) i24 q43 q44)) ?_
 refine as_ ?_
 refine ad_ hK42 ?_
 refine WC.drawW HS [rowM w.heap.size 5 1 v26 xs25.length I27] (fun _ HS => ⟨(HS.mu 0 rfl), trivial⟩) [14] rfl rfl (fun w46 HS => ?_)
 refine dm_ 0 ?_
 refine dm_ 1 ?_
 refine dp_ 2 (fun _ => Run.bin rfl rfl rfl (bin_quo64 (show (2 : Int) ≠ 0 by decide))) ?_
 obtain ⟨⟨q47, q48⟩, H⟩ := if_some H
 obtain ⟨A49, c50, rfl⟩ := row_slice (HS.mu 0 rfl)
 obtain ⟨ad51, rfl⟩ := row_open (HS.mu 0 rfl) (by omega)
 refine di_ 3 underlying22 1 q47 q48 ?_
 refine dm_ 5 ?_
 refine dp_ 6 (fun _ => Run.bin rfl rfl rfl bin_and) ?_
 refine dp_ 7 (fun _ => Run.convI rfl underlying3 underlying5 rfl) ?_
 refine dm_ 8 ?_
 refine dp_ 9 (fun _ => Run.bin rfl rfl rfl (bin_rem (show (2 : Int) ≠ 0 by decide))) ?_
 refine dp_ 10 (fun _ => Run.bin rfl rfl rfl bin_mul64) ?_
 obtain ⟨q52, H⟩ := if_some H
 refine dp_ 11 (fun _ => Run.shlV rfl rfl rfl q52) ?_
 refine dt_ 4 ⟨HS.nowO, HS.nowN, ⟨(HS.mu 0 rfl), trivial⟩⟩ (fun w_ hw_ => Run.load rfl rfl underlying5 rfl (row_int hw_.2.2.1 (AllF.get 0 rfl hw_.1) q47 q48)) ?_
 refine dp_ 12 (fun _ => Run.bin rfl rfl rfl bin_or) ?_
 refine di_ 13 underlying22 1 q47 q48 ?_
 have hk_ := mul_room q47 q48 1
 refine WD.putElL 14 HS 0 rfl rfl rfl rfl [.int .u8 (Go.bits .or .u8 (xs25.getD (wrap64 (Int.tdiv i24 2)).toNat 0) (shl .u8 (IntKind.u8.wrap (Go.bits .and .i64 (l0.getD i24.toNat 0) 15)) (wrap64 (4 * (Int.tmod i24 2)))))] rfl (oneL rfl) (by kernel_rfl) (by first | omega | (rw [List.length_nil]; omega) | (simp; omega)) (fun w53 I54 hI55 HS => ?_)
 dsimp only [List.set] at HS
 clear hk_
 replace HS := HS.deriveO (p := (rF kU (xs25.set (wrap64 (Int.tdiv i24 2)).toNat (Go.bits .or .u8 (xs25.getD (wrap64 (Int.tdiv i24 2)).toNat 0) (shl .u8 (IntKind.u8.wrap (Go.bits .and .i64 (l0.getD i24.toNat 0) 15)) (wrap64 (4 * (Int.tmod i24 2)))))) I54)) (fun W_ hO_ hN_ => reps_set hI55 hO_.1 (K_int _) (toNat_lt q47 q48))
 replace HS := HS.rowN 0 rfl (show xs25.length = (xs25.set (wrap64 (Int.tdiv i24 2)).toNat (Go.bits .or .u8 (xs25.getD (wrap64 (Int.tdiv i24 2)).toNat 0) (shl .u8 (IntKind.u8.wrap (Go.bits .and .i64 (l0.getD i24.toNat 0) 15)) (wrap64 (4 * (Int.tmod i24 2)))))).length from (List.length_set ..).symm)
 dsimp only [List.set] at HS
 refine dd_ (via_ hK41 (rg_ (b_ bin_add64 ?_)))
 refine mv_ ?_
 refine WL.done ?_
 exact wr_ k37 iq ⟨(wrap64 (i24 + 1)), (xs25.set (wrap64 (Int.tdiv i24 2)).toNat (Go.bits .or .u8 (xs25.getD (wrap64 (Int.tdiv i24 2)).toNat 0) (shl .u8 (IntKind.u8.wrap (Go.bits .and .i64 (l0.getD i24.toNat 0) 15)) (wrap64 (4 * (Int.tmod i24 2)))))), (.slice (some ad51) xs25.length c50), I54, ⟨_, H, Ho23⟩, rfl, (St.pk HS [0, 2] [] rfl rfl)⟩
def iput.b0 (a1 : Int) (l2 : List Int) (rec_ : Int → (List Int) → Option (Int × (List Int))) (k15 : Nat) (i6 : Int) (xs7 : List Int) : Option (Int × (List Int)) := (if i6 < (l2.length : Int) then (if 0 ≤ i6 ∧ i6 < (l2.length : Int) then (if (xs7.length) < 4294967296 then (rec_ (wrap64 (i6 + 1)) (xs7 ++ [IntKind.u8.wrap (wrap64 ((l2.getD i6.toNat 0) + a1))])) else none) else none) else (some (i6, xs7)))
def iput.l0 (a1 : Int) (l2 : List Int) : Nat → Int → (List Int) → Option (Int × (List Int))
 | 0, _, _ => none
 | k + 1, i6, xs7 => iput.b0 a1 l2 (iput.l0 a1 l2 k) k i6 xs7
def iput.g (k : Nat) (x0 : S49) (a1 : Int) (l2 : List Int) : Option S49 := ((iput.l0 a1 l2 k 0 x0.f0).bind (fun oc13 => (some (⟨oc13.2⟩ : S49))))
theorem iput.runs (k : Nat) (b0 : Nat) (v0_0 : Value) (I0_0 : List Value) (x0 : S49) (a1 : Int) (A2 : Option Addr) (c2 : Nat) (l2 : List Int) (y_ : S49) {ok0_ : Nat → Prop} {w0_ w : World} {ms_ : List Mu} {fo_ fn_ : List Fact} (hc2 : l2.length ≤ c2) (HS : St ok0_ w0_ w (boxM b0 #[v0_0] 49 :: rowX w0_.heap.size 5 1 v0_0 x0.f0.length I0_0 :: ms_) ((cF kI A2 l2) :: fo_) ((rF kU x0.f0 I0_0) :: fn_)) (H : iput.g k x0 a1 l2 = some y_) :
   Calls prog 17 #[.pointer (some ⟨b0, 0, none⟩), vi a1, .slice A2 l2.length c2] w fun e w' => ∃ (v0_ : Value) (I0_ : List Value), e = .returned (.tuple #[]) ∧ St ok0_ w0_ w' (boxM b0 #[v0_] 49 :: rowX w0_.heap.size 5 1 v0_ y_.f0.length I0_ :: ms_) fo_ ((rF kU y_.f0 I0_) :: fn_) := by
 unfold iput.g at H
 refine cw_ (n := 28) func17 fun R_ hR_ => ?_
 refine WC.endK (fun KE hKE => ?_)
 refine sr_ fun _ hK1 => ?_
 refine mv_ ?_
 refine ln_ underlying27 ?_
 refine mv_ ?_
 refine dn_ hK1 (WC.block ?_)
 obtain ⟨G2, hG3, oc4, H, Ho5⟩ := open_G H
 let J10 := fun (i6 : Int) (xs7 : List Int) v8 I9 (E_ : Env) (W_ : World) => E_ = [(0, .pointer (some ⟨b0, 0, none⟩)), (1, vi a1), (8, .slice A2 l2.length c2), (9, vi (l2.length : Int)), (10, vi i6)] ∧ St ok0_ w0_ W_ (boxM b0 #[v8] 49 :: rowX w0_.heap.size 5 1 v8 xs7.length I9 :: ms_) ((cF kI A2 l2) :: fo_) ((rF kU xs7 I9) :: fn_)
 have X11 : ∀ E_ W_, (∃ i6 xs7 v8 I9, G2 (i6, xs7) = some y_ ∧ J10 i6 xs7 v8 I9 E_ W_) → ∀ a, Fits a 28 E_ → KE a W_ := by
   rintro E_ w12 ⟨i6, xs7, v8, I9, H, rfl, HS⟩
   rw [hG3] at H
   (try dsimp only at H)
   refine hKE _ _ ?_
   obtain rfl := os H
   exact fin0 Try.f17 hR_ ⟨_, _, rfl, St.pick HS (fun W_ h_ => h_.2) (fun W_ h_ => ⟨h_.1, h_.2⟩)⟩ (Or.inr rfl)
 clear hKE
 refine WC.loop (fun k_ E_ W_ => ∃ i6 xs7 v8 I9, (∃ o_, iput.l0 a1 l2 k_ i6 xs7 = some o_ ∧ G2 o_ = some y_) ∧ J10 i6 xs7 v8 I9 E_ W_) k ⟨0, x0.f0, v0_0, I0_0, ⟨_, H, Ho5⟩, rfl, (St.pick HS (fun W_ h_ => ⟨h_.1, h_.2⟩) (fun W_ h_ => ⟨h_.1, h_.2⟩))⟩ (sb rfl) ?_
 rintro k_ E_ w14 ⟨i6, xs7, v8, I9, ⟨oc4, H, Ho5⟩, rfl, HS⟩
 rcases k_ with _ | k15
 · exact no_ H
 replace H : iput.b0 a1 l2 (iput.l0 a1 l2 k15) k15 i6 xs7 = some oc4 := H
 unfold iput.b0 at H
 refine sr_ fun _ hK16 => ?_
 refine b_ bin_lss ?_
 refine dn_ hK16 (WC.seq fun _ hK17 => ?_)
 rcases eti_ H with ⟨c18, H⟩ | ⟨c18, H⟩
 · refine wn_ (dF c18) (WC.exit ?_)
   obtain rfl := os H
   exact wv_ iq X11 ⟨i6, xs7, v8, I9, Ho5, rfl, (St.pick HS (fun W_ h_ => ⟨h_.1, h_.2⟩) (fun W_ h_ => ⟨h_.1, h_.2⟩))⟩
 refine wy_ (dT c18) (WC.skip (via_ hK17 (WC.seq fun _ hK19 => ?_)))
 refine WC.block (sr_ fun _ hK20 => ?_)
 obtain ⟨⟨q21, q22⟩, H⟩ := if_some H
 obtain ⟨ad23, rfl⟩ := C_open (HS.getO 0 rfl) (by omega)
 refine v_ (ia_ underlying27 1 q21 q22) ?_
 refine v_ (Run.load rfl rfl underlying3 rfl (int_cell (HS.getO 0 rfl) i6 q21 q22)) ?_
 refine ad_ hK20 ?_
 refine rg_ (mv_ ?_)
 refine mv_ ?_
 refine v_ (Run.nilCheck rfl rfl) ?_
 refine v_ (fa_ underlying49) ?_
 obtain ⟨A24, c25, rfl⟩ := rowX_slice (HS.mu 1 rfl)
 refine v_ (lb_ (HS.mu 0 rfl) underlying22 rfl) ?_
 refine mv_ ?_
 refine mv_ ?_
 refine b_ bin_add64 ?_
 refine v_ (Run.convI rfl underlying3 underlying5 rfl) ?_
 refine WL.val rfl rfl (by decide) (Run.lit1 (z := (.int .u8 0)) (vs := [.int .u8 (IntKind.u8.wrap (wrap64 ((l2.getD i6.toNat 0) + a1)))]) rfl rfl rfl underlying22 (by kernel_rfl) (ble_ rfl) (ble_ rfl)) ?_
 have HS1 := HS.below (below_alloc (Below.refl _ _) (.cells #[.int .u8 (IntKind.u8.wrap (wrap64 ((l2.getD i6.toNat 0) + a1)))] 5))
 obtain ⟨q26, H⟩ := if_some H
 refine WL.appendX HS1 1 rfl rfl rfl (by decide) rfl (.int .u8 0) 1 underlying22 (by kernel_rfl) rfl (by decide) (by decide) rfl rfl [.int .u8 (IntKind.u8.wrap (wrap64 ((l2.getD i6.toNat 0) + a1)))] rfl (fun _ => ⟨_, rfl, lit_news _ _ _⟩) (oneL rfl) (by omega) ((xs7 ++ [IntKind.u8.wrap (wrap64 ((l2.getD i6.toNat 0) + a1))]).length) (by simp) (fun v27 w28 I29 hI30 HS => ?_)
 dsimp only [List.set] at HS
 replace HS := HS.deriveN (p := (rF kU (xs7 ++ [IntKind.u8.wrap (wrap64 ((l2.getD i6.toNat 0) + a1))]) I29)) (fun W_ hN_ => reps_snoc hI30 hN_.1 (K_int _))
 clear HS1
 refine v_ (Run.nilCheck rfl rfl) ?_
 refine v_ (fa_ underlying49) ?_
 obtain ⟨A32, c33, rfl⟩ := rowX_slice (HS.mu 1 rfl)
 refine WL.store HS 0 rfl rfl rfl rfl rfl rfl rfl (by kernel_rfl) (ble_ rfl) (cs' := #[(.slice A32 ((xs7 ++ [IntKind.u8.wrap (wrap64 ((l2.getD i6.toNat 0) + a1))]).length) c33)]) (by kernel_rfl) (fun w31 HS => ?_)
 dsimp only [List.set] at HS
 refine dn_ hK19 (rg_ (b_ bin_add64 ?_))
 refine mv_ ?_
 refine WL.done ?_
 exact wr_ k15 iq ⟨(wrap64 (i6 + 1)), (xs7 ++ [IntKind.u8.wrap (wrap64 ((l2.getD i6.toNat 0) + a1))]), (.slice A32 ((xs7 ++ [IntKind.u8.wrap (wrap64 ((l2.getD i6.toNat 0) + a1))]).length) c33), I29, ⟨_, H, Ho5⟩, rfl, (St.pick HS (fun W_ h_ => ⟨h_.1, h_.2⟩) (fun W_ h_ => ⟨h_.1, h_.2.2⟩))⟩
def iwide.b0 (a1 : Int) (rec_ : Int → (List Int) → Option (Int × (List Int))) (k15 : Nat) (i6 : Int) (xs7 : List Int) : Option (Int × (List Int)) := (if i6 ≥ 0 then (if 0 ≤ (wrap64 (8 * i6)) then (if (xs7.length) < 4294967296 then (rec_ (wrap64 (i6 - 1)) (xs7 ++ [IntKind.u8.wrap (shr .i64 a1 (wrap64 (8 * i6)))])) else none) else none) else (some (i6, xs7)))
def iwide.l0 (a1 : Int) : Nat → Int → (List Int) → Option (Int × (List Int))
 | 0, _, _ => none
 | k + 1, i6, xs7 => iwide.b0 a1 (iwide.l0 a1 k) k i6 xs7
def iwide.g (k : Nat) (x0 : S49) (a1 : Int) (a2 : Int) : Option S49 := ((iwide.l0 a1 k (wrap64 (a2 - 1)) x0.f0).bind (fun oc13 => (some (⟨oc13.2⟩ : S49))))
theorem iwide.runs (k : Nat) (b0 : Nat) (v0_0 : Value) (I0_0 : List Value) (x0 : S49) (a1 : Int) (a2 : Int) (y_ : S49) {ok0_ : Nat → Prop} {w0_ w : World} {ms_ : List Mu} {fo_ fn_ : List Fact} (HS : St ok0_ w0_ w (boxM b0 #[v0_0] 49 :: rowX w0_.heap.size 5 1 v0_0 x0.f0.length I0_0 :: ms_) fo_ ((rF kU x0.f0 I0_0) :: fn_)) (H : iwide.g k x0 a1 a2 = some y_) :
   Calls prog 18 #[.pointer (some ⟨b0, 0, none⟩), vi a1, vi a2] w fun e w' => ∃ (v0_ : Value) (I0_ : List Value), e = .returned (.tuple #[]) ∧ St ok0_ w0_ w' (boxM b0 #[v0_] 49 :: rowX w0_.heap.size 5 1 v0_ y_.f0.length I0_ :: ms_) fo_ ((rF kU y_.f0 I0_) :: fn_) := by
 unfold iwide.g at H
 refine cw_ (n := 27) func18 fun R_ hR_ => ?_
 refine WC.endK (fun KE hKE => ?_)
 refine sr_ fun _ hK1 => ?_
 refine mv_ ?_
 refine b_ bin_sub64 ?_
 refine ad_ hK1 ?_
 refine WC.block ?_
 obtain ⟨G2, hG3, oc4, H, Ho5⟩ := open_G H
 let J10 := fun (i6 : Int) (xs7 : List Int) v8 I9 (E_ : Env) (W_ : World) => E_ = [(0, .pointer (some ⟨b0, 0, none⟩)), (1, vi a1), (6, vi i6)] ∧ St ok0_ w0_ W_ (boxM b0 #[v8] 49 :: rowX w0_.heap.size 5 1 v8 xs7.length I9 :: ms_) fo_ ((rF kU xs7 I9) :: fn_)
 have X11 : ∀ E_ W_, (∃ i6 xs7 v8 I9, G2 (i6, xs7) = some y_ ∧ J10 i6 xs7 v8 I9 E_ W_) → ∀ a, Fits a 27 E_ → KE a W_ := by
   rintro E_ w12 ⟨i6, xs7, v8, I9, H, rfl, HS⟩
   rw [hG3] at H
   (try dsimp only at H)
   refine hKE _ _ ?_
   obtain rfl := os H
   exact fin0 Try.f18 hR_ ⟨_, _, rfl, St.pick HS (fun W_ h_ => h_) (fun W_ h_ => ⟨h_.1, h_.2⟩)⟩ (Or.inr rfl)
 clear hKE
 refine WC.loop (fun k_ E_ W_ => ∃ i6 xs7 v8 I9, (∃ o_, iwide.l0 a1 k_ i6 xs7 = some o_ ∧ G2 o_ = some y_) ∧ J10 i6 xs7 v8 I9 E_ W_) k ⟨(wrap64 (a2 - 1)), x0.f0, v0_0, I0_0, ⟨_, H, Ho5⟩, rfl, (St.pick HS (fun W_ h_ => h_) (fun W_ h_ => ⟨h_.1, h_.2⟩))⟩ (sb rfl) ?_
 rintro k_ E_ w14 ⟨i6, xs7, v8, I9, ⟨oc4, H, Ho5⟩, rfl, HS⟩
 rcases k_ with _ | k15
 · exact no_ H
 replace H : iwide.b0 a1 (iwide.l0 a1 k15) k15 i6 xs7 = some oc4 := H
 unfold iwide.b0 at H
 refine WC.seq fun _ hK16 => ?_
 refine sr_ fun _ hK17 => ?_
 refine mv_ ?_
 refine b_ bin_geq ?_
 refine dn_ hK17 ?_
 rcases eti_ H with ⟨c18, H⟩ | ⟨c18, H⟩
 · refine wn_ (dF c18) (WC.exit ?_)
   obtain rfl := os H
   exact wv_ iq X11 ⟨i6, xs7, v8, I9, Ho5, rfl, (St.pick HS (fun W_ h_ => h_) (fun W_ h_ => ⟨h_.1, h_.2⟩))⟩
 refine wy_ (dT c18) (WC.skip (via_ hK16 (WC.seq fun _ hK19 => ?_)))
 refine WC.block (WC.drawW HS [boxM b0 #[v8] 49] (fun _ HS => ⟨(HS.mu 0 rfl), trivial⟩) [14] rfl rfl (fun w20 HS => ?_))
 refine dm_ 0 ?_
 refine dm_ 1 ?_
 refine dp_ 2 (fun _ => Run.nilCheck rfl rfl) ?_
 refine df_ 3 underlying49 ?_
 refine dm_ 5 ?_
 refine dm_ 6 ?_
 refine dp_ 7 (fun _ => Run.bin rfl rfl rfl bin_mul64) ?_
 obtain ⟨q21, H⟩ := if_some H
 refine dp_ 8 (fun _ => Run.shrV rfl rfl rfl q21) ?_
 refine dp_ 9 (fun _ => Run.convI rfl underlying3 underlying5 rfl) ?_
 obtain ⟨A22, c23, rfl⟩ := rowX_slice (HS.mu 1 rfl)
 refine dt_ 4 ⟨HS.nowO, HS.nowN, ⟨(HS.mu 0 rfl), trivial⟩⟩ (fun w_ hw_ => Run.load rfl rfl underlying22 rfl (box_cell hw_.2.2.1 rfl)) ?_
 have HS1 := HS.below (below_alloc (Below.refl _ _) (.cells #[.int .u8 (IntKind.u8.wrap (shr .i64 a1 (wrap64 (8 * i6))))] 5))
 refine dv_ 10 (w_none rfl) (Run.lit1 (z := (.int .u8 0)) (vs := [.int .u8 (IntKind.u8.wrap (shr .i64 a1 (wrap64 (8 * i6))))]) rfl rfl rfl underlying22 (by kernel_rfl) (ble_ rfl) (ble_ rfl)) ⟨HS1.nowO, HS1.nowN, ⟨(HS1.mu 0 rfl), trivial⟩⟩ ?_
 obtain ⟨q24, H⟩ := if_some H
 refine WD.appendX 11 (w_none rfl) HS1 1 rfl rfl (.int .u8 0) 1 underlying22 (by kernel_rfl) rfl (by decide) (by decide) rfl rfl [.int .u8 (IntKind.u8.wrap (shr .i64 a1 (wrap64 (8 * i6))))] rfl (fun _ => ⟨_, rfl, lit_news _ _ _⟩) (oneL rfl) (by omega) ((xs7 ++ [IntKind.u8.wrap (shr .i64 a1 (wrap64 (8 * i6)))]).length) (by simp) (fun v25 w26 I27 hI28 HS => ?_)
 dsimp only [List.set] at HS
 replace HS := HS.deriveN (p := (rF kU (xs7 ++ [IntKind.u8.wrap (shr .i64 a1 (wrap64 (8 * i6)))]) I27)) (fun W_ hN_ => reps_snoc hI28 hN_.1 (K_int _))
 clear HS1
 refine ⟨⟨HS.nowO, HS.nowN.2, ⟨(HS.mu 0 rfl), trivial⟩⟩, ?_⟩
 refine dp_ 12 (fun _ => Run.nilCheck rfl rfl) ?_
 refine df_ 13 underlying49 ?_
 obtain ⟨A30, c31, rfl⟩ := rowX_slice (HS.mu 1 rfl)
 refine WD.storeL 14 HS 0 rfl rfl rfl rfl rfl (by kernel_rfl) (ble_ rfl) (cs' := #[(.slice A30 ((xs7 ++ [IntKind.u8.wrap (shr .i64 a1 (wrap64 (8 * i6)))]).length) c31)]) (by kernel_rfl) (fun w29 HS => ?_)
 dsimp only [List.set] at HS
 refine dd_ (via_ hK19 (rg_ (mv_ ?_)))
 refine b_ bin_sub64 ?_
 refine as_ ?_
 refine WL.done ?_
 exact wr_ k15 iq ⟨(wrap64 (i6 - 1)), (xs7 ++ [IntKind.u8.wrap (shr .i64 a1 (wrap64 (8 * i6)))]), (.slice A30 ((xs7 ++ [IntKind.u8.wrap (shr .i64 a1 (wrap64 (8 * i6)))]).length) c31), I27, ⟨_, H, Ho5⟩, rfl, (St.pick HS (fun W_ h_ => h_) (fun W_ h_ => ⟨h_.1, h_.2.2⟩))⟩
def iturns.b1 (l1 : List (List Int)) (i6 : Int) (rec_ : Int → (List Int) → Option (Int × (List Int))) (k41 : Nat) (i32 : Int) (xs33 : List Int) : Option (Int × (List Int)) := (if i32 < ((l1.getD i6.toNat []).length : Int) then (if 0 ≤ i32 ∧ i32 < ((l1.getD i6.toNat []).length : Int) then ((iwide.g k41 (⟨xs33⟩ : S49) (wrap64 (((l1.getD i6.toNat []).getD i32.toNat 0) + 128)) 2).bind fun t50 => (rec_ (wrap64 (i32 + 1)) t50.f0)) else none) else (some (i32, xs33)))
def iturns.l1 (l1 : List (List Int)) (i6 : Int) : Nat → Int → (List Int) → Option (Int × (List Int))
 | 0, _, _ => none
 | k + 1, i32, xs33 => iturns.b1 l1 i6 (iturns.l1 l1 i6 k) k i32 xs33
def iturns.b0 (l1 : List (List Int)) (rec_ : Int → (List Int) → Option (Int × (List Int))) (k15 : Nat) (i6 : Int) (xs7 : List Int) : Option (Int × (List Int)) := (if i6 < (l1.length : Int) then (if 0 ≤ i6 ∧ i6 < (l1.length : Int) then ((iturns.l1 l1 i6 k15 0 xs7).bind (fun oc39 => (rec_ (wrap64 (i6 + 1)) oc39.2))) else none) else (some (i6, xs7)))
def iturns.l0 (l1 : List (List Int)) : Nat → Int → (List Int) → Option (Int × (List Int))
 | 0, _, _ => none
 | k + 1, i6, xs7 => iturns.b0 l1 (iturns.l0 l1 k) k i6 xs7
def iturns.g (k : Nat) (x0 : S49) (l1 : List (List Int)) : Option S49 := ((iturns.l0 l1 k 0 x0.f0).bind (fun oc13 => (some (⟨oc13.2⟩ : S49))))
theorem iturns.runs (k : Nat) (b0 : Nat) (v0_0 : Value) (I0_0 : List Value) (x0 : S49) (A1 : Option Addr) (c1 : Nat) (l1 : List (List Int)) (y_ : S49) {ok0_ : Nat → Prop} {w0_ w : World} {ms_ : List Mu} {fo_ fn_ : List Fact} (hc1 : l1.length ≤ c1) (HS : St ok0_ w0_ w (boxM b0 #[v0_0] 49 :: rowX w0_.heap.size 5 1 v0_0 x0.f0.length I0_0 :: ms_) ((cF kS3 A1 l1) :: fo_) ((rF kU x0.f0 I0_0) :: fn_)) (H : iturns.g k x0 l1 = some y_) :
   Calls prog 20 #[.pointer (some ⟨b0, 0, none⟩), .slice A1 l1.length c1] w fun e w' => ∃ (v0_ : Value) (I0_ : List Value), e = .returned (.tuple #[]) ∧ St ok0_ w0_ w' (boxM b0 #[v0_] 49 :: rowX w0_.heap.size 5 1 v0_ y_.f0.length I0_ :: ms_) fo_ ((rF kU y_.f0 I0_) :: fn_) := by
 unfold iturns.g at H
 refine cw_ (n := 26) func20 fun R_ hR_ => ?_
 refine WC.endK (fun KE hKE => ?_)
 refine sr_ fun _ hK1 => ?_
 refine mv_ ?_
 refine ln_ underlying25 ?_
 refine mv_ ?_
 refine dn_ hK1 (WC.block ?_)
 obtain ⟨G2, hG3, oc4, H, Ho5⟩ := open_G H
 let J10 := fun (i6 : Int) (xs7 : List Int) v8 I9 (E_ : Env) (W_ : World) => E_ = [(0, .pointer (some ⟨b0, 0, none⟩)), (8, .slice A1 l1.length c1), (9, vi (l1.length : Int)), (10, vi i6)] ∧ St ok0_ w0_ W_ (boxM b0 #[v8] 49 :: rowX w0_.heap.size 5 1 v8 xs7.length I9 :: ms_) ((cF kS3 A1 l1) :: fo_) ((rF kU xs7 I9) :: fn_)
 have X11 : ∀ E_ W_, (∃ i6 xs7 v8 I9, G2 (i6, xs7) = some y_ ∧ J10 i6 xs7 v8 I9 E_ W_) → ∀ a, Fits a 26 E_ → KE a W_ := by
   rintro E_ w12 ⟨i6, xs7, v8, I9, H, rfl, HS⟩
   rw [hG3] at H
   (try dsimp only at H)
   refine hKE _ _ ?_
   obtain rfl := os H
   exact fin0 Try.f20 hR_ ⟨_, _, rfl, St.pick HS (fun W_ h_ => h_.2) (fun W_ h_ => ⟨h_.1, h_.2⟩)⟩ (Or.inr rfl)
 clear hKE
 refine WC.loop (fun k_ E_ W_ => ∃ i6 xs7 v8 I9, (∃ o_, iturns.l0 l1 k_ i6 xs7 = some o_ ∧ G2 o_ = some y_) ∧ J10 i6 xs7 v8 I9 E_ W_) k ⟨0, x0.f0, v0_0, I0_0, ⟨_, H, Ho5⟩, rfl, (St.pick HS (fun W_ h_ => ⟨h_.1, h_.2⟩) (fun W_ h_ => ⟨h_.1, h_.2⟩))⟩ (sb rfl) ?_
 rintro k_ E_ w14 ⟨i6, xs7, v8, I9, ⟨oc4, H, Ho5⟩, rfl, HS⟩
 rcases k_ with _ | k15
 · exact no_ H
 replace H : iturns.b0 l1 (iturns.l0 l1 k15) k15 i6 xs7 = some oc4 := H
 unfold iturns.b0 at H
 refine sr_ fun _ hK16 => ?_
 refine b_ bin_lss ?_
 refine dn_ hK16 (WC.seq fun _ hK17 => ?_)
 rcases eti_ H with ⟨c18, H⟩ | ⟨c18, H⟩
 · refine wn_ (dF c18) (WC.exit ?_)
   obtain rfl := os H
   exact wv_ iq X11 ⟨i6, xs7, v8, I9, Ho5, rfl, (St.pick HS (fun W_ h_ => ⟨h_.1, h_.2⟩) (fun W_ h_ => ⟨h_.1, h_.2⟩))⟩
 refine wy_ (dT c18) (WC.skip (via_ hK17 (WC.seq fun K19 hK19 => ?_)))
 refine WC.block (sr_ fun _ hK20 => ?_)
 obtain ⟨⟨q21, q22⟩, H⟩ := if_some H
 obtain ⟨ad23, rfl⟩ := C_open (HS.getO 0 rfl) (by omega)
 refine v_ (ia_ underlying25 1 q21 q22) ?_
 obtain ⟨A24, c25, le26, HS⟩ := HS.slO 0 rfl i6 q21 q22
 refine v_ (Run.load rfl rfl underlying27 rfl (HS.getO 1 rfl)) ?_
 refine ad_ hK20 ?_
 refine sr_ fun _ hK27 => ?_
 refine mv_ ?_
 refine ln_ underlying27 ?_
 refine mv_ ?_
 refine dn_ hK27 (WC.block ?_)
 obtain ⟨G28, hG29, oc30, H, Ho31⟩ := open_G H
 let J36 := fun (i32 : Int) (xs33 : List Int) v34 I35 (E_ : Env) (W_ : World) => E_ = [(0, .pointer (some ⟨b0, 0, none⟩)), (8, .slice (some ad23) l1.length c1), (9, vi (l1.length : Int)), (10, vi i6), (14, .slice A24 ((l1.getD i6.toNat []).length) c25), (15, vi ((l1.getD i6.toNat []).length : Int)), (16, vi i32)] ∧ St ok0_ w0_ W_ (boxM b0 #[v34] 49 :: rowX w0_.heap.size 5 1 v34 xs33.length I35 :: ms_) ((cF kI A24 (l1.getD i6.toNat [])) :: (cF kS3 (some ad23) l1) :: fo_) ((rF kU xs33 I35) :: fn_)
 have X37 : ∀ E_ W_, (∃ i32 xs33 v34 I35, G28 (i32, xs33) = some oc4 ∧ J36 i32 xs33 v34 I35 E_ W_) → ∀ a, Fits a 26 E_ → K19 a W_ := by
   rintro E_ w38 ⟨i32, xs33, v34, I35, H, rfl, HS⟩
   rw [hG29] at H
   (try dsimp only at H)
   refine hK19 _ _ ?_
   refine rg_ (b_ bin_add64 ?_)
   refine mv_ ?_
   refine WL.done ?_
   exact wr_ k15 iq ⟨(wrap64 (i6 + 1)), xs33, v34, I35, ⟨_, H, Ho5⟩, rfl, (St.pick HS (fun W_ h_ => ⟨h_.2.1, h_.2.2⟩) (fun W_ h_ => ⟨h_.1, h_.2⟩))⟩
 clear hK19
 refine WC.loop (fun k_ E_ W_ => ∃ i32 xs33 v34 I35, (∃ o_, iturns.l1 l1 i6 k_ i32 xs33 = some o_ ∧ G28 o_ = some oc4) ∧ J36 i32 xs33 v34 I35 E_ W_) k15 ⟨0, xs7, v8, I9, ⟨_, H, Ho31⟩, rfl, (St.pick HS (fun W_ h_ => ⟨h_.1, h_.2.2.1, h_.2.2.2⟩) (fun W_ h_ => ⟨h_.1, h_.2⟩))⟩ (sb rfl) ?_
 rintro k_ E_ w40 ⟨i32, xs33, v34, I35, ⟨oc30, H, Ho31⟩, rfl, HS⟩
 rcases k_ with _ | k41
 · exact no_ H
 replace H : iturns.b1 l1 i6 (iturns.l1 l1 i6 k41) k41 i32 xs33 = some oc30 := H
 unfold iturns.b1 at H
 refine sr_ fun _ hK42 => ?_
 refine b_ bin_lss ?_
 refine dn_ hK42 (WC.seq fun _ hK43 => ?_)
 rcases eti_ H with ⟨c44, H⟩ | ⟨c44, H⟩
 · refine wn_ (dF c44) (WC.exit ?_)
   obtain rfl := os H
   exact wv_ iq X37 ⟨i32, xs33, v34, I35, Ho31, rfl, (St.pick HS (fun W_ h_ => ⟨h_.1, h_.2.1, h_.2.2⟩) (fun W_ h_ => ⟨h_.1, h_.2⟩))⟩
 refine wy_ (dT c44) (WC.skip (via_ hK43 (WC.seq fun _ hK45 => ?_)))
 refine WC.block (sr_ fun _ hK46 => ?_)
 obtain ⟨⟨q47, q48⟩, H⟩ := if_some H
 obtain ⟨ad49, rfl⟩ := C_open (HS.getO 0 rfl) (by omega)
 refine v_ (ia_ underlying27 1 q47 q48) ?_
 refine v_ (Run.load rfl rfl underlying3 rfl (int_cell (HS.getO 0 rfl) i32 q47 q48)) ?_
 refine ad_ hK46 ?_
 refine rg_ (mv_ ?_)
 refine mv_ ?_
 refine b_ bin_add64 ?_
 replace HS := HS.front 1 rfl
 dsimp only [List.eraseIdx] at HS
 replace HS := HS.front 1 rfl
 dsimp only [List.eraseIdx] at HS
 replace HS := HS.deriveN (p := (rF kU xs33 I35)) (fun W_ hN_ => hN_.1)
 obtain ⟨t50, ha51, H⟩ := bind_some H
 refine c_ func18 (iwide.runs k41 b0 v34 I35 (⟨xs33⟩ : S49) (wrap64 (((l1.getD i6.toNat []).getD i32.toNat 0) + 128)) 2 t50 HS ha51) ?_
 clear ha51
 rintro _ w52 ⟨v53, I54, rfl, HS⟩
 refine ⟨_, rfl, ?_⟩
 refine dn_ hK45 (rg_ (b_ bin_add64 ?_))
 refine mv_ ?_
 refine WL.done ?_
 exact wr_ k41 iq ⟨(wrap64 (i32 + 1)), t50.f0, v53, I54, ⟨_, H, Ho31⟩, rfl, (St.pick HS (fun W_ h_ => ⟨h_.1, h_.2.1, h_.2.2⟩) (fun W_ h_ => ⟨h_.1, h_.2.2⟩))⟩
def imatri1.b1 (x1 : S29) (rec_ : (List Int) → Int → Option ((List Int) × Int)) (k87 : Nat) (xs13 : List Int) (i16 : Int) : Option ((List Int) × Int) := (if i16 < (x1.f1.length : Int) then (if 0 ≤ i16 ∧ i16 < (x1.f1.length : Int) then (if (xs13.length) + ((x1.f1.getD i16.toNat []).length) < 4294967296 then (rec_ (xs13 ++ (x1.f1.getD i16.toNat [])) (wrap64 (i16 + 1))) else none) else none) else (some (xs13, i16)))
def imatri1.l1 (x1 : S29) : Nat → (List Int) → Int → Option ((List Int) × Int)
 | 0, _, _ => none
 | k + 1, xs13, i16 => imatri1.b1 x1 (imatri1.l1 x1 k) k xs13 i16
def imatri1.b0 (x1 : S29) (rec_ : Int → (List Int) → Option (Int × (List Int))) (k68 : Nat) (i43 : Int) (xs44 : List Int) : Option (Int × (List Int)) := (if i43 < (x1.f2.length : Int) then (if 0 ≤ i43 ∧ i43 < (x1.f2.length : Int) then ((iput.g k68 (⟨xs44⟩ : S49) 0 (x1.f2.getD i43.toNat [])).bind fun t80 => (rec_ (wrap64 (i43 + 1)) t80.f0)) else none) else (some (i43, xs44)))
def imatri1.l0 (x1 : S29) : Nat → Int → (List Int) → Option (Int × (List Int))
 | 0, _, _ => none
 | k + 1, i43, xs44 => imatri1.b0 x1 (imatri1.l0 x1 k) k i43 xs44
def imatri1.g (k : Nat) (x0 : S49) (x1 : S29) : Option S49 := ((imatri1.l1 x1 k ([] : List Int) 0).bind (fun oc85 => ((iPN.g k oc85.1).bind fun t23 => (if (x0.f0.length) + t23.1.size < 4294967296 then ((imatri1.l0 x1 k 0 (x0.f0 ++ bytesOf t23.1)).bind (fun oc66 => ((iwide.g k (⟨oc66.2⟩ : S49) x1.f3 3).bind fun t51 => ((iput.g k (⟨t51.f0⟩ : S49) 0 ([x1.f4])).bind fun t61 => (some (⟨t61.f0⟩ : S49)))))) else none))))
theorem imatri1.runs (k : Nat) (b0 : Nat) (v0_0 : Value) (I0_0 : List Value) (x0 : S49) (x1 : S29) (A1_1 : Option Addr) (c1_1 : Nat) (A1_2 : Option Addr) (c1_2 : Nat) (y_ : S49) {ok0_ : Nat → Prop} {w0_ w : World} {ms_ : List Mu} {fo_ fn_ : List Fact} (hc1_1 : x1.f1.length ≤ c1_1) (hc1_2 : x1.f2.length ≤ c1_2) (HS : St ok0_ w0_ w (boxM b0 #[v0_0] 49 :: rowX w0_.heap.size 5 1 v0_0 x0.f0.length I0_0 :: ms_) ((cF kS3 A1_1 x1.f1) :: (cF kS3 A1_2 x1.f2) :: fo_) ((rF kU x0.f0 I0_0) :: fn_)) (H : imatri1.g k x0 x1 = some y_) :
   Calls prog 19 #[.pointer (some ⟨b0, 0, none⟩), .agg #[vi x1.f0, .slice A1_1 x1.f1.length c1_1, .slice A1_2 x1.f2.length c1_2, vi x1.f3, vi x1.f4]] w fun e w' => ∃ (v0_ : Value) (I0_ : List Value), e = .returned (.tuple #[]) ∧ St ok0_ w0_ w' (boxM b0 #[v0_] 49 :: rowX w0_.heap.size 5 1 v0_ y_.f0.length I0_ :: ms_) fo_ ((rF kU y_.f0 I0_) :: fn_) := by
 unfold imatri1.g at H
 refine cw_ (n := 57) func19 fun R_ hR_ => ?_
 refine WC.endK (fun KE hKE => ?_)
 refine sr_ fun _ hK1 => ?_
 refine bo_ HS (fun b2 w3 hb2 HS => ?_)
 refine dn_ hK1 (sr_ fun _ hK4 => ?_)
 refine WL.lit0 HS rfl rfl (by decide) rfl underlying27 (sz := 1) (by kernel_rfl) (fun v5 w6 HS => ?_)
 replace HS := HS.deriveN (p := (rF kI ([] : List Int) [])) (fun _ _ => Reps.none _ _)
 refine ad_ hK4 ?_
 refine WC.seq fun K7 hK7 => ?_
 refine sr_ fun _ hK8 => ?_
 refine v_ (fa_ underlying29) ?_
 refine v_ (lb_ (HS.mu 1 rfl) underlying25 rfl) ?_
 refine ln_ underlying25 ?_
 refine mv_ ?_
 refine dn_ hK8 (WC.block ?_)
 obtain ⟨G9, hG10, oc11, H, Ho12⟩ := open_G H
 let J17 := fun (xs13 : List Int) v14 I15 (i16 : Int) (E_ : Env) (W_ : World) => E_ = [(0, .pointer (some ⟨b0, 0, none⟩)), (3, .pointer (some ⟨b2, 0, none⟩)), (4, v14), (13, .slice A1_1 x1.f1.length c1_1), (14, vi (x1.f1.length : Int)), (15, vi i16)] ∧ St ok0_ w0_ W_ (rowM w0_.heap.size 3 1 v14 xs13.length I15 :: boxM b2 #[vi x1.f0, .slice A1_1 x1.f1.length c1_1, .slice A1_2 x1.f2.length c1_2, vi x1.f3, vi x1.f4] 29 :: boxM b0 #[v0_0] 49 :: rowX w0_.heap.size 5 1 v0_0 x0.f0.length I0_0 :: ms_) ((cF kS3 A1_1 x1.f1) :: (cF kS3 A1_2 x1.f2) :: fo_) ((rF kI xs13 I15) :: (rF kU x0.f0 I0_0) :: fn_)
 have X18 : ∀ E_ W_, (∃ xs13 v14 I15 i16, G9 (xs13, i16) = some y_ ∧ J17 xs13 v14 I15 i16 E_ W_) → ∀ a, Fits a 57 E_ → K7 a W_ := by
   rintro E_ w19 ⟨xs13, v14, I15, i16, H, rfl, HS⟩
   rw [hG10] at H
   (try dsimp only at H)
   refine hK7 _ _ ?_
   refine sr_ fun _ hK20 => ?_
   refine mv_ ?_
   obtain ⟨A21, c22, rfl⟩ := row_slice (HS.mu 0 rfl)
   obtain ⟨t23, ha24, H⟩ := bind_some H
   refine cs_ HS func57 (iPN.runs k A21 c22 xs13 t23.1 t23.2 _ (row_C rfl (HS.mu 0 rfl) (HS.getN 0 rfl)) (row_le (HS.mu 0 rfl)) ha24) (fun w25 HS => ?_)
   clear ha24
   refine mv_ ?_
   refine v_ (Run.extract rfl rfl rfl) ?_
   refine v_ (Run.extract rfl rfl rfl) ?_
   refine as_ ?_
   refine ad_ hK20 ?_
   refine sr_ fun _ hK26 => ?_
   refine mv_ ?_
   refine mv_ ?_
   refine v_ (Run.nilCheck rfl rfl) ?_
   refine v_ (fa_ underlying49) ?_
   obtain ⟨A27, c28, rfl⟩ := rowX_slice (HS.mu 3 rfl)
   refine v_ (lb_ (HS.mu 2 rfl) underlying22 rfl) ?_
   refine mv_ ?_
   obtain ⟨q29, H⟩ := if_some H
   refine WL.appendS HS 3 rfl rfl rfl (by decide) rfl (.int .u8 0) 1 underlying22 underlying9 (by kernel_rfl) rfl (by decide) rfl rfl (by omega) ((x0.f0 ++ bytesOf t23.1).length) (by simp [bytesOf_length] <;> omega) (fun v30 w31 I32 hI33 HS => ?_)
   dsimp only [List.set] at HS
   replace HS := HS.deriveN (p := (rF kU (x0.f0 ++ bytesOf t23.1) I32)) (fun W_ hN_ => reps_more hI33 hN_.2.1 (bcells_reps _))
   refine v_ (Run.nilCheck rfl rfl) ?_
   refine v_ (fa_ underlying49) ?_
   obtain ⟨A35, c36, rfl⟩ := rowX_slice (HS.mu 3 rfl)
   refine WL.store HS 2 rfl rfl rfl rfl rfl rfl rfl (by kernel_rfl) (ble_ rfl) (cs' := #[(.slice A35 ((x0.f0 ++ bytesOf t23.1).length) c36)]) (by kernel_rfl) (fun w34 HS => ?_)
   dsimp only [List.set] at HS
   refine dn_ hK26 (WC.seq fun K37 hK37 => ?_)
   refine sr_ fun _ hK38 => ?_
   refine v_ (fa_ underlying29) ?_
   refine v_ (lb_ (HS.mu 1 rfl) underlying25 rfl) ?_
   refine ln_ underlying25 ?_
   refine mv_ ?_
   refine dn_ hK38 (WC.block ?_)
   obtain ⟨G39, hG40, oc41, H, Ho42⟩ := open_G H
   let J47 := fun (i43 : Int) (xs44 : List Int) v45 I46 (E_ : Env) (W_ : World) => E_ = [(0, .pointer (some ⟨b0, 0, none⟩)), (3, .pointer (some ⟨b2, 0, none⟩)), (38, .slice A1_2 x1.f2.length c1_2), (39, vi (x1.f2.length : Int)), (40, vi i43)] ∧ St ok0_ w0_ W_ (boxM b2 #[vi x1.f0, .slice A1_1 x1.f1.length c1_1, .slice A1_2 x1.f2.length c1_2, vi x1.f3, vi x1.f4] 29 :: boxM b0 #[v45] 49 :: rowX w0_.heap.size 5 1 v45 xs44.length I46 :: ms_) ((cF kS3 A1_1 x1.f1) :: (cF kS3 A1_2 x1.f2) :: fo_) ((rF kU xs44 I46) :: fn_)
   have X48 : ∀ E_ W_, (∃ i43 xs44 v45 I46, G39 (i43, xs44) = some y_ ∧ J47 i43 xs44 v45 I46 E_ W_) → ∀ a, Fits a 57 E_ → K37 a W_ := by
     rintro E_ w49 ⟨i43, xs44, v45, I46, H, rfl, HS⟩
     rw [hG40] at H
     (try dsimp only at H)
     refine hK37 _ _ ?_
     refine sr_ fun _ hK50 => ?_
     refine mv_ ?_
     refine v_ (fa_ underlying29) ?_
     refine v_ (lb_ (HS.mu 0 rfl) underlying3 rfl) ?_
     replace HS := HS.front 2 rfl
     dsimp only [List.eraseIdx] at HS
     replace HS := HS.front 2 rfl
     dsimp only [List.eraseIdx] at HS
     replace HS := HS.deriveN (p := (rF kU xs44 I46)) (fun W_ hN_ => hN_.1)
     obtain ⟨t51, ha52, H⟩ := bind_some H
     refine c_ func18 (iwide.runs k b0 v45 I46 (⟨xs44⟩ : S49) x1.f3 3 t51 HS ha52) ?_
     clear ha52
     rintro _ w53 ⟨v54, I55, rfl, HS⟩
     refine ⟨_, rfl, ?_⟩
     refine dn_ hK50 (rg_ (mv_ ?_))
     refine v_ (fa_ underlying29) ?_
     refine v_ (lb_ (HS.mu 2 rfl) underlying3 rfl) ?_
     refine WL.litN HS (sz := 1) (z := (vi 0)) rfl rfl (by decide) rfl [[vi x1.f4]] ⟨⟨rfl, _, rfl, rfl, rfl⟩, trivial⟩ rfl underlying27 (by kernel_rfl) (by decide) (by decide) (fun v56 w57 HS => ?_)
     replace HS := HS.deriveN (p := (rF kI [x1.f4] (List.flatten [[vi x1.f4]]))) (fun W_ hN_ => reps_lit ⟨(K_int _), trivial⟩)
     obtain ⟨A58, c59, rfl⟩ := row_slice (HS.mu 0 rfl)
     have le60 := row_le (HS.mu 0 rfl)
     replace HS := HS.freezeN 0 (p := (fun W => kI.C W A58 1 ([x1.f4]))) rfl (fun W_ hm_ h_ => row_C (by simp) hm_ h_.1)
     dsimp only [List.eraseIdx] at HS
     replace HS := HS.front 1 rfl
     dsimp only [List.eraseIdx] at HS
     replace HS := HS.front 1 rfl
     dsimp only [List.eraseIdx] at HS
     replace HS := HS.deriveO (p := (cF kI A58 ([x1.f4]))) (fun W_ hO_ hN_ => hN_.1)
     replace HS := HS.deriveN (p := (rF kU t51.f0 I55)) (fun W_ hN_ => hN_.2.2.1)
     obtain ⟨t61, ha62, H⟩ := bind_some H
     refine c_ func17 (iput.runs k b0 v54 I55 (⟨t51.f0⟩ : S49) 0 A58 c59 ([x1.f4]) t61 le60 HS ha62) ?_
     clear ha62
     rintro _ w63 ⟨v64, I65, rfl, HS⟩
     refine ⟨_, rfl, ?_⟩
     refine WL.done ?_
     refine viaQ_ hKE ?_
     obtain rfl := os H
     exact fin0 Try.f19 hR_ ⟨_, _, rfl, St.pick (St.forget HS 2 rfl) (fun W_ h_ => h_.2.2) (fun W_ h_ => ⟨h_.1, h_.2.2.2.2.2⟩)⟩ (Or.inr rfl)
   clear hK37
   refine WC.loop (fun k_ E_ W_ => ∃ i43 xs44 v45 I46, (∃ o_, imatri1.l0 x1 k_ i43 xs44 = some o_ ∧ G39 o_ = some y_) ∧ J47 i43 xs44 v45 I46 E_ W_) k ⟨0, (x0.f0 ++ bytesOf t23.1), (.slice A35 ((x0.f0 ++ bytesOf t23.1).length) c36), I32, ⟨_, H, Ho42⟩, rfl, (St.pick (St.forget HS 0 rfl) (fun W_ h_ => ⟨h_.1, h_.2.1, h_.2.2⟩) (fun W_ h_ => ⟨h_.1, h_.2.2.2⟩))⟩ (sb rfl) ?_
   rintro k_ E_ w67 ⟨i43, xs44, v45, I46, ⟨oc41, H, Ho42⟩, rfl, HS⟩
   rcases k_ with _ | k68
   · exact no_ H
   replace H : imatri1.b0 x1 (imatri1.l0 x1 k68) k68 i43 xs44 = some oc41 := H
   unfold imatri1.b0 at H
   refine sr_ fun _ hK69 => ?_
   refine b_ bin_lss ?_
   refine dn_ hK69 (WC.seq fun _ hK70 => ?_)
   rcases eti_ H with ⟨c71, H⟩ | ⟨c71, H⟩
   · refine wn_ (dF c71) (WC.exit ?_)
     obtain rfl := os H
     exact wv_ iq X48 ⟨i43, xs44, v45, I46, Ho42, rfl, (St.pick HS (fun W_ h_ => ⟨h_.1, h_.2.1, h_.2.2⟩) (fun W_ h_ => ⟨h_.1, h_.2⟩))⟩
   refine wy_ (dT c71) (WC.skip (via_ hK70 (WC.seq fun _ hK72 => ?_)))
   refine WC.block (sr_ fun _ hK73 => ?_)
   obtain ⟨⟨q74, q75⟩, H⟩ := if_some H
   obtain ⟨ad76, rfl⟩ := C_open (HS.getO 1 rfl) (by omega)
   refine v_ (ia_ underlying25 1 q74 q75) ?_
   obtain ⟨A77, c78, le79, HS⟩ := HS.slO 1 rfl i43 q74 q75
   refine v_ (Run.load rfl rfl underlying27 rfl (HS.getO 1 rfl)) ?_
   refine ad_ hK73 ?_
   refine rg_ (mv_ ?_)
   refine mv_ ?_
   replace HS := HS.front 2 rfl
   dsimp only [List.eraseIdx] at HS
   replace HS := HS.front 2 rfl
   dsimp only [List.eraseIdx] at HS
   replace HS := HS.deriveO (p := (cF kI A77 (x1.f2.getD i43.toNat []))) (fun W_ hO_ hN_ => hO_.1)
   replace HS := HS.deriveN (p := (rF kU xs44 I46)) (fun W_ hN_ => hN_.1)
   obtain ⟨t80, ha81, H⟩ := bind_some H
   refine c_ func17 (iput.runs k68 b0 v45 I46 (⟨xs44⟩ : S49) 0 A77 c78 (x1.f2.getD i43.toNat []) t80 le79 HS ha81) ?_
   clear ha81
   rintro _ w82 ⟨v83, I84, rfl, HS⟩
   refine ⟨_, rfl, ?_⟩
   refine dn_ hK72 (rg_ (b_ bin_add64 ?_))
   refine mv_ ?_
   refine WL.done ?_
   exact wr_ k68 iq ⟨(wrap64 (i43 + 1)), t80.f0, v83, I84, ⟨_, H, Ho42⟩, rfl, (St.pick (St.front (St.front (St.front HS 1 rfl) 1 rfl) 2 rfl) (fun W_ h_ => ⟨h_.2.2.1, h_.2.2.2.1, h_.2.2.2.2⟩) (fun W_ h_ => ⟨h_.1, h_.2.2⟩))⟩
 clear hK7
 refine WC.loop (fun k_ E_ W_ => ∃ xs13 v14 I15 i16, (∃ o_, imatri1.l1 x1 k_ xs13 i16 = some o_ ∧ G9 o_ = some y_) ∧ J17 xs13 v14 I15 i16 E_ W_) k ⟨([] : List Int), v5, ([]), 0, ⟨_, H, Ho12⟩, rfl, (St.pick HS (fun W_ h_ => ⟨h_.1, h_.2.1, h_.2.2⟩) (fun W_ h_ => ⟨h_.1, h_.2.1, h_.2.2⟩))⟩ (sb rfl) ?_
 rintro k_ E_ w86 ⟨xs13, v14, I15, i16, ⟨oc11, H, Ho12⟩, rfl, HS⟩
 rcases k_ with _ | k87
 · exact no_ H
 replace H : imatri1.b1 x1 (imatri1.l1 x1 k87) k87 xs13 i16 = some oc11 := H
 unfold imatri1.b1 at H
 refine sr_ fun _ hK88 => ?_
 refine b_ bin_lss ?_
 refine dn_ hK88 (WC.seq fun _ hK89 => ?_)
 rcases eti_ H with ⟨c90, H⟩ | ⟨c90, H⟩
 · refine wn_ (dF c90) (WC.exit ?_)
   obtain rfl := os H
   exact wv_ iq X18 ⟨xs13, v14, I15, i16, Ho12, rfl, (St.pick HS (fun W_ h_ => ⟨h_.1, h_.2.1, h_.2.2⟩) (fun W_ h_ => ⟨h_.1, h_.2.1, h_.2.2⟩))⟩
 refine wy_ (dT c90) (WC.skip (via_ hK89 (WC.seq fun _ hK91 => ?_)))
 refine WC.block (sr_ fun _ hK92 => ?_)
 obtain ⟨⟨q93, q94⟩, H⟩ := if_some H
 obtain ⟨ad95, rfl⟩ := C_open (HS.getO 0 rfl) (by omega)
 refine v_ (ia_ underlying25 1 q93 q94) ?_
 obtain ⟨A96, c97, le98, HS⟩ := HS.slO 0 rfl i16 q93 q94
 refine v_ (Run.load rfl rfl underlying27 rfl (HS.getO 1 rfl)) ?_
 refine ad_ hK92 ?_
 refine rg_ (mv_ ?_)
 refine mv_ ?_
 obtain ⟨q99, H⟩ := if_some H
 obtain ⟨L100, hl101, h102, hF103, hc104⟩ := foot_all (HS.footO 0 rfl) (by decide) rfl
 replace HS := HS.addN (p := (rF kI (x1.f1.getD i16.toNat []) L100)) (fun W_ _ => hF103.now)
 refine WL.appendL HS 0 rfl rfl rfl (by decide) rfl (vi 0) 8 underlying27 (by kernel_rfl) rfl (by decide) (by decide) rfl rfl L100 hl101 hc104 h102 (by omega) ((xs13 ++ (x1.f1.getD i16.toNat [])).length) (by simp <;> omega) (fun v105 w106 I107 hI108 HS => ?_)
 dsimp only [List.set] at HS
 replace HS := HS.deriveN (p := (rF kI (xs13 ++ (x1.f1.getD i16.toNat [])) I107)) (fun W_ hN_ => reps_more hI108 hN_.2.1 hN_.1)
 refine ad_ hK91 ?_
 refine rg_ (b_ bin_add64 ?_)
 refine mv_ ?_
 refine WL.done ?_
 exact wr_ k87 iq ⟨(xs13 ++ (x1.f1.getD i16.toNat [])), v105, I107, (wrap64 (i16 + 1)), ⟨_, H, Ho12⟩, rfl, (St.pick HS (fun W_ h_ => ⟨h_.2.2.1, h_.2.2.2.1, h_.2.2.2.2⟩) (fun W_ h_ => ⟨h_.1, h_.2.2.2.1, h_.2.2.2.2⟩))⟩
def iMT.b4 (x0 : S33) (rec_ : Int → (List Int) → Option (Int × (List Int))) (k334 : Nat) (i43 : Int) (xs44 : List Int) : Option (Int × (List Int)) := (if i43 < (x0.f5.length : Int) then (if 0 ≤ i43 ∧ i43 < (x0.f5.length : Int) then ((iput.g k334 (⟨xs44⟩ : S49) 0 ([((x0.f5.getD i43.toNat o52).f6.f1.length : Int)])).bind fun t357 => (rec_ (wrap64 (i43 + 1)) t357.f0)) else none) else (some (i43, xs44)))
def iMT.l4 (x0 : S33) : Nat → Int → (List Int) → Option (Int × (List Int))
 | 0, _, _ => none
 | k + 1, i43, xs44 => iMT.b4 x0 (iMT.l4 x0 k) k i43 xs44
def iMT.b3 (x0 : S33) (rec_ : Int → (List Int) → Option (Int × (List Int))) (k307 : Nat) (i56 : Int) (xs57 : List Int) : Option (Int × (List Int)) := (if i56 < (x0.f3.length : Int) then (if 0 ≤ i56 ∧ i56 < (x0.f3.length : Int) then ((iwide.g k307 (⟨xs57⟩ : S49) ((x0.f3.getD i56.toNat o54).f0) 2).bind fun t322 => ((iwide.g k307 (⟨t322.f0⟩ : S49) ((x0.f3.getD i56.toNat o54).f1) 2).bind fun t327 => (rec_ (wrap64 (i56 + 1)) t327.f0))) else none) else (some (i56, xs57)))
def iMT.l3 (x0 : S33) : Nat → Int → (List Int) → Option (Int × (List Int))
 | 0, _, _ => none
 | k + 1, i56, xs57 => iMT.b3 x0 (iMT.l3 x0 k) k i56 xs57
def iMT.b2 (x0 : S33) (rec_ : Int → (List Int) → Option (Int × (List Int))) (k288 : Nat) (i73 : Int) (xs74 : List Int) : Option (Int × (List Int)) := (if i73 < (x0.f4.length : Int) then (if 0 ≤ i73 ∧ i73 < (x0.f4.length : Int) then ((iput.g k288 (⟨xs74⟩ : S49) 128 (x0.f4.getD i73.toNat [])).bind fun t300 => (rec_ (wrap64 (i73 + 1)) t300.f0)) else none) else (some (i73, xs74)))
def iMT.l2 (x0 : S33) : Nat → Int → (List Int) → Option (Int × (List Int))
 | 0, _, _ => none
 | k + 1, i73, xs74 => iMT.b2 x0 (iMT.l2 x0 k) k i73 xs74
def iMT.b1 (x0 : S33) (i86 : Int) (rec_ : Int → (List Int) → Option (Int × (List Int))) (k259 : Nat) (i213 : Int) (xs214 : List Int) : Option (Int × (List Int)) := (if i213 < (4 : Int) then (if 0 ≤ i213 ∧ i213 < (4 : Int) then ((imatri1.g k259 (⟨xs214⟩ : S49) (⟨(([(x0.f5.getD i86.toNat o52).f1, (x0.f5.getD i86.toNat o52).f2, (x0.f5.getD i86.toNat o52).f3, (x0.f5.getD i86.toNat o52).f4]).getD i213.toNat o29).f0, (([(x0.f5.getD i86.toNat o52).f1, (x0.f5.getD i86.toNat o52).f2, (x0.f5.getD i86.toNat o52).f3, (x0.f5.getD i86.toNat o52).f4]).getD i213.toNat o29).f1, (([(x0.f5.getD i86.toNat o52).f1, (x0.f5.getD i86.toNat o52).f2, (x0.f5.getD i86.toNat o52).f3, (x0.f5.getD i86.toNat o52).f4]).getD i213.toNat o29).f2, (([(x0.f5.getD i86.toNat o52).f1, (x0.f5.getD i86.toNat o52).f2, (x0.f5.getD i86.toNat o52).f3, (x0.f5.getD i86.toNat o52).f4]).getD i213.toNat o29).f3, (([(x0.f5.getD i86.toNat o52).f1, (x0.f5.getD i86.toNat o52).f2, (x0.f5.getD i86.toNat o52).f3, (x0.f5.getD i86.toNat o52).f4]).getD i213.toNat o29).f4⟩ : S29)).bind fun t281 => (rec_ (wrap64 (i213 + 1)) t281.f0)) else none) else (some (i213, xs214)))
def iMT.l1 (x0 : S33) (i86 : Int) : Nat → Int → (List Int) → Option (Int × (List Int))
 | 0, _, _ => none
 | k + 1, i213, xs214 => iMT.b1 x0 i86 (iMT.l1 x0 i86 k) k i213 xs214
def iMT.b0 (x0 : S33) (rec_ : Int → (List Int) → Option (Int × (List Int))) (k146 : Nat) (i86 : Int) (xs87 : List Int) : Option (Int × (List Int)) := (if i86 < (x0.f5.length : Int) then (if 0 ≤ i86 ∧ i86 < (x0.f5.length : Int) then ((iput.g k146 (⟨xs87⟩ : S49) 0 ((x0.f5.getD i86.toNat o52).f0)).bind fun t165 => ((iMT.l1 x0 i86 k146 0 t165.f0).bind (fun oc257 => ((iput.g k146 (⟨oc257.2⟩ : S49) 0 ((x0.f5.getD i86.toNat o52).f5)).bind fun t225 => ((imatri1.g k146 (⟨t225.f0⟩ : S49) ((x0.f5.getD i86.toNat o52).f6)).bind fun t239 => ((imatri1.g k146 (⟨t239.f0⟩ : S49) ((x0.f5.getD i86.toNat o52).f7)).bind fun t252 => (rec_ (wrap64 (i86 + 1)) t252.f0))))))) else none) else (some (i86, xs87)))
def iMT.l0 (x0 : S33) : Nat → Int → (List Int) → Option (Int × (List Int))
 | 0, _, _ => none
 | k + 1, i86, xs87 => iMT.b0 x0 (iMT.l0 x0 k) k i86 xs87
def iMT.g (k : Nat) (x0 : S33) : Option (ByteArray × Bool) := ((impl_ModelOk.g k x0).bind fun t6 => (if t6 = true then ((iput.g k (⟨[84, 77, 49]⟩ : S49) 0 ([x0.f0, x0.f1, x0.f2, (x0.f3.length : Int), (x0.f5.length : Int)])).bind fun t32 => ((iMT.l4 x0 k 0 t32.f0).bind (fun oc332 => ((iMT.l3 x0 k 0 oc332.2).bind (fun oc305 => ((iMT.l2 x0 k 0 oc305.2).bind (fun oc286 => ((iMT.l0 x0 k 0 oc286.2).bind (fun oc144 => ((iput.g k (⟨oc144.2⟩ : S49) 0 x0.f6).bind fun t98 => ((imatri1.g k (⟨t98.f0⟩ : S49) x0.f7).bind fun t112 => ((iturns.g k (⟨t112.f0⟩ : S49) x0.f8.f0).bind fun t122 => ((iturns.g k (⟨t122.f0⟩ : S49) x0.f8.f1).bind fun t132 => ((impl_Sealed.f k (strOfNums t132.f0)).bind fun t141 => (some (t141.1, t141.2)))))))))))))))) else (some ((⟨#[]⟩ : ByteArray), false))))
theorem iMT.runs (k : Nat) (cs0 : List Value) (x0 : S33) (r1 : ByteArray) (r2 : Bool) (w : World) (hk0 : k33.K w x0 cs0) (H : iMT.g k x0 = some (r1, r2)) :
   Calls prog 6 #[.agg cs0.toArray] w fun e w' => e = .returned (.tuple #[.string r1, .bool r2]) ∧ Below w.heap.size w w' := by
 have el0 : cs0.length = 14 := k33.K_len hk0
 unfold iMT.g at H
 have HS : St (fun _ => True) w w [] [(kF k33 x0 cs0)] [] := St.start (foot_cons (foot_K h33 hk0) foot_nil)
 refine cw_ (n := 147) func6 fun R_ hR_ => ?_
 refine sr_ fun _ hK1 => ?_
 refine bo_ HS (fun b2 w3 hb2 HS => ?_)
 refine as_ ?_
 refine ad_ hK1 ?_
 clear hK1
 refine WC.seq fun _ hK4 => ?_
 refine sr_ fun _ hK5 => ?_
 refine v_ (Run.loadS (cs := cs0) rfl rfl underlying33 rfl (by rw [el0]; kernel_rfl) (box_part (HS.mu 0 rfl) part_all)) ?_
 obtain ⟨t6, ha7, H⟩ := bind_some H
 refine cs_ HS func16 (impl_ModelOk.runs k cs0 x0 t6 _ (HS.getO 0 rfl) ha7) (fun w8 HS => ?_)
 clear ha7
 refine nt_ ?_
 exact by (
 refine dn_ hK5 ?_
 clear hK5
 rcases eti_ H with ⟨c9, H⟩ | ⟨c9, H⟩
 · refine wy_ (nB (bF c9)) (sr_ fun _ hK362 => ?_)
   refine as_ ?_
   refine ad_ hK362 ?_
   clear hK362
   obtain ⟨rfl, rfl⟩ := Prod.mk.inj (os H)
   exact rt2 Try.f6 rfl rfl rfl hR_ ⟨rfl, HS.b⟩
 refine wn_ (nB c9) (WC.skip (via_ hK4 (sr_ fun _ hK10 => ?_)))
 clear hK4
 refine WL.litN HS (sz := 1) (z := (.int .u8 0)) rfl rfl (by decide) rfl [[.int .u8 84], [.int .u8 77], [.int .u8 49]] ⟨⟨rfl, _, rfl, rfl, rfl⟩, ⟨⟨rfl, _, rfl, rfl, rfl⟩, ⟨⟨rfl, _, rfl, rfl, rfl⟩, trivial⟩⟩⟩ rfl underlying22 (by kernel_rfl) (by decide) (by decide) (fun v11 w12 HS => ?_)
 replace HS := HS.deriveO (p := (rF kU [84, 77, 49] (List.flatten [[.int .u8 84], [.int .u8 77], [.int .u8 49]]))) (fun W_ hO_ hN_ => reps_lit ⟨(K_int _), ⟨(K_int _), ⟨(K_int _), trivial⟩⟩⟩)
 refine WL.mark HS 0 rfl rfl rfl (by decide) rfl underlying22 underlying5 rfl (by decide) (fun w13 HS => ?_)
 dsimp only [List.set] at HS
 obtain ⟨A14, c15, rfl⟩ := rowX_slice (HS.mu 0 rfl)
 exact by (
 refine v_ (Run.build (cells := #[(.slice A14 3 c15)]) rfl [(0, (.slice A14 3 c15))] ⟨⟨rfl, rfl⟩, trivial⟩ (by kernel_rfl)) ?_
 refine bo_ HS (fun b16 w17 hb16 HS => ?_)
 refine ad_ hK10 ?_
 clear hK10
 refine sr_ fun _ hK18 => ?_
 refine mv_ ?_
 refine v_ (fa_ underlying33) ?_
 refine v_ (lb_ (HS.mu 2 rfl) underlying3 (at33_0 (HS.aO 1 rfl)).int) ?_
 refine v_ (fa_ underlying33) ?_
 refine v_ (lb_ (HS.mu 2 rfl) underlying3 (at33_1 (HS.aO 1 rfl)).int) ?_
 refine v_ (fa_ underlying33) ?_
 refine v_ (lb_ (HS.mu 2 rfl) underlying3 (at33_2 (HS.aO 1 rfl)).int) ?_
 refine v_ (fa_ underlying33) ?_
 obtain ⟨A19, c20, hc21, le22, HS⟩ := HS.sO 1 rfl at33_3
 refine v_ (lb_ (HS.mu 2 rfl) underlying24 hc21) ?_
 refine ln_ underlying24 ?_
 exact by (
 refine v_ (fa_ underlying33) ?_
 obtain ⟨A23, c24, hc25, le26, HS⟩ := HS.sO 2 rfl at33_5
 refine v_ (lb_ (HS.mu 2 rfl) underlying26 hc25) ?_
 refine ln_ underlying26 ?_
 refine WL.litN HS (sz := 1) (z := (vi 0)) rfl rfl (by decide) rfl [[vi x0.f0], [vi x0.f1], [vi x0.f2], [vi (x0.f3.length : Int)], [vi (x0.f5.length : Int)]] ⟨⟨rfl, _, rfl, rfl, rfl⟩, ⟨⟨rfl, _, rfl, rfl, rfl⟩, ⟨⟨rfl, _, rfl, rfl, rfl⟩, ⟨⟨rfl, _, rfl, rfl, rfl⟩, ⟨⟨rfl, _, rfl, rfl, rfl⟩, trivial⟩⟩⟩⟩⟩ rfl underlying27 (by kernel_rfl) (by decide) (by decide) (fun v27 w28 HS => ?_)
 replace HS := HS.deriveO (p := (rF kI [x0.f0, x0.f1, x0.f2, (x0.f3.length : Int), (x0.f5.length : Int)] (List.flatten [[vi x0.f0], [vi x0.f1], [vi x0.f2], [vi (x0.f3.length : Int)], [vi (x0.f5.length : Int)]]))) (fun W_ hO_ hN_ => reps_lit ⟨(K_int _), ⟨(K_int _), ⟨(K_int _), ⟨(K_int _), ⟨(K_int _), trivial⟩⟩⟩⟩⟩)
 obtain ⟨A29, c30, rfl⟩ := row_slice (HS.mu 0 rfl)
 have le31 := row_le (HS.mu 0 rfl)
 replace HS := HS.freezeO 0 (p := (fun W => kI.C W A29 5 ([x0.f0, x0.f1, x0.f2, (x0.f3.length : Int), (x0.f5.length : Int)]))) rfl (fun W_ hm_ h_ => row_C (by simp) hm_ h_.1)
 dsimp only [List.eraseIdx] at HS
 replace HS := HS.front 1 rfl
 dsimp only [List.eraseIdx] at HS
 replace HS := HS.front 1 rfl
 dsimp only [List.eraseIdx] at HS
 replace HS := HS.deriveO (p := (cF kI A29 ([x0.f0, x0.f1, x0.f2, (x0.f3.length : Int), (x0.f5.length : Int)]))) (fun W_ hO_ hN_ => hO_.1)
 replace HS := HS.deriveN (p := (rF kU ([84, 77, 49]) (List.flatten [[.int .u8 84], [.int .u8 77], [.int .u8 49]]))) (fun _ _ => HS.getO 5 rfl)
 exact by (
 obtain ⟨t32, ha33, H⟩ := bind_some H
 refine c_ func17 (iput.runs k b16 (.slice A14 3 c15) (List.flatten [[.int .u8 84], [.int .u8 77], [.int .u8 49]]) (⟨[84, 77, 49]⟩ : S49) 0 A29 c30 ([x0.f0, x0.f1, x0.f2, (x0.f3.length : Int), (x0.f5.length : Int)]) t32 le31 HS ha33) ?_
 clear ha33
 rintro _ w34 ⟨v35, I36, rfl, HS⟩
 replace HS := HS.deriveO (p := (rF kU t32.f0 I36)) (fun W_ hO_ hN_ => hN_.1)
 refine ⟨_, rfl, ?_⟩
 refine dn_ hK18 (WC.seq fun K37 hK37 => ?_)
 clear hK18
 refine sr_ fun _ hK38 => ?_
 refine v_ (fa_ underlying33) ?_
 refine v_ (lb_ (HS.mu 2 rfl) underlying26 hc25) ?_
 refine ln_ underlying26 ?_
 refine mv_ ?_
 refine dn_ hK38 (WC.block ?_)
 clear hK38
 obtain ⟨G39, hG40, oc41, H, Ho42⟩ := open_G H
 exact by (
 let J47 := fun (i43 : Int) (xs44 : List Int) v45 I46 (E_ : Env) (W_ : World) => E_ = [(1, .pointer (some ⟨b2, 0, none⟩)), (4, .pointer (some ⟨b16, 0, none⟩)), (38, .slice A23 x0.f5.length c24), (39, vi (x0.f5.length : Int)), (40, vi i43)] ∧ St (fun _ => True) w W_ [boxM b16 #[v45] 49, rowX w.heap.size 5 1 v45 xs44.length I46, boxM b2 cs0.toArray 33] [(rF kU xs44 I46), (cF k52 A23 x0.f5), (cF k54 A19 x0.f3), (kF k33 x0 cs0)] []
 have X48 : ∀ E_ W_, (∃ i43 xs44 v45 I46, G39 (i43, xs44) = some (r1, r2) ∧ J47 i43 xs44 v45 I46 E_ W_) → ∀ a, Fits a 147 E_ → K37 a W_ := by
   rintro E_ w49 ⟨i43, xs44, v45, I46, H, rfl, HS⟩
   rw [hG40] at H
   (try dsimp only at H)
   refine hK37 _ _ ?_
   clear hK37
   refine WC.seq fun K50 hK50 => ?_
   refine sr_ fun _ hK51 => ?_
   refine v_ (fa_ underlying33) ?_
   refine v_ (lb_ (HS.mu 2 rfl) underlying24 hc21) ?_
   refine ln_ underlying24 ?_
   refine mv_ ?_
   refine dn_ hK51 (WC.block ?_)
   clear hK51
   obtain ⟨G52, hG53, oc54, H, Ho55⟩ := open_G H
   exact by (
   let J60 := fun (i56 : Int) (xs57 : List Int) v58 I59 (E_ : Env) (W_ : World) => E_ = [(1, .pointer (some ⟨b2, 0, none⟩)), (4, .pointer (some ⟨b16, 0, none⟩)), (53, .slice A19 x0.f3.length c20), (54, vi (x0.f3.length : Int)), (55, vi i56)] ∧ St (fun _ => True) w W_ [boxM b16 #[v58] 49, rowX w.heap.size 5 1 v58 xs57.length I59, boxM b2 cs0.toArray 33] [(rF kU xs57 I59), (cF k52 A23 x0.f5), (cF k54 A19 x0.f3), (kF k33 x0 cs0)] []
   have X61 : ∀ E_ W_, (∃ i56 xs57 v58 I59, G52 (i56, xs57) = some (r1, r2) ∧ J60 i56 xs57 v58 I59 E_ W_) → ∀ a, Fits a 147 E_ → K50 a W_ := by
     rintro E_ w62 ⟨i56, xs57, v58, I59, H, rfl, HS⟩
     rw [hG53] at H
     (try dsimp only at H)
     refine hK50 _ _ ?_
     clear hK50
     refine WC.seq fun K63 hK63 => ?_
     refine sr_ fun _ hK64 => ?_
     refine v_ (fa_ underlying33) ?_
     obtain ⟨A65, c66, hc67, le68, HS⟩ := HS.sO 3 rfl at33_4
     refine v_ (lb_ (HS.mu 2 rfl) underlying25 hc67) ?_
     refine ln_ underlying25 ?_
     refine mv_ ?_
     refine dn_ hK64 (WC.block ?_)
     clear hK64
     exact by (
     obtain ⟨G69, hG70, oc71, H, Ho72⟩ := open_G H
     let J77 := fun (i73 : Int) (xs74 : List Int) v75 I76 (E_ : Env) (W_ : World) => E_ = [(1, .pointer (some ⟨b2, 0, none⟩)), (4, .pointer (some ⟨b16, 0, none⟩)), (69, .slice A65 x0.f4.length c66), (70, vi (x0.f4.length : Int)), (71, vi i73)] ∧ St (fun _ => True) w W_ [boxM b16 #[v75] 49, rowX w.heap.size 5 1 v75 xs74.length I76, boxM b2 cs0.toArray 33] [(cF kS3 A65 x0.f4), (rF kU xs74 I76), (cF k52 A23 x0.f5), (cF k54 A19 x0.f3), (kF k33 x0 cs0)] []
     have X78 : ∀ E_ W_, (∃ i73 xs74 v75 I76, G69 (i73, xs74) = some (r1, r2) ∧ J77 i73 xs74 v75 I76 E_ W_) → ∀ a, Fits a 147 E_ → K63 a W_ := by
       rintro E_ w79 ⟨i73, xs74, v75, I76, H, rfl, HS⟩
       rw [hG70] at H
       (try dsimp only at H)
       refine hK63 _ _ ?_
       clear hK63
       refine WC.seq fun K80 hK80 => ?_
       refine sr_ fun _ hK81 => ?_
       refine v_ (fa_ underlying33) ?_
       refine v_ (lb_ (HS.mu 2 rfl) underlying26 hc25) ?_
       refine ln_ underlying26 ?_
       refine mv_ ?_
       refine dn_ hK81 (WC.block ?_)
       clear hK81
       exact by (
       obtain ⟨G82, hG83, oc84, H, Ho85⟩ := open_G H
       let J90 := fun (i86 : Int) (xs87 : List Int) v88 I89 (E_ : Env) (W_ : World) => E_ = [(1, .pointer (some ⟨b2, 0, none⟩)), (4, .pointer (some ⟨b16, 0, none⟩)), (80, .slice A23 x0.f5.length c24), (81, vi (x0.f5.length : Int)), (82, vi i86)] ∧ St (fun _ => True) w W_ [boxM b16 #[v88] 49, rowX w.heap.size 5 1 v88 xs87.length I89, boxM b2 cs0.toArray 33] [(cF kS3 A65 x0.f4), (rF kU xs87 I89), (cF k52 A23 x0.f5), (cF k54 A19 x0.f3), (kF k33 x0 cs0)] []
       have X91 : ∀ E_ W_, (∃ i86 xs87 v88 I89, G82 (i86, xs87) = some (r1, r2) ∧ J90 i86 xs87 v88 I89 E_ W_) → ∀ a, Fits a 147 E_ → K80 a W_ := by
         rintro E_ w92 ⟨i86, xs87, v88, I89, H, rfl, HS⟩
         rw [hG83] at H
         (try dsimp only at H)
         refine hK80 _ _ ?_
         clear hK80
         refine sr_ fun _ hK93 => ?_
         refine mv_ ?_
         refine v_ (fa_ underlying33) ?_
         obtain ⟨A94, c95, hc96, le97, HS⟩ := HS.sO 4 rfl at33_6
         refine v_ (lb_ (HS.mu 2 rfl) underlying27 hc96) ?_
         replace HS := HS.front 1 rfl
         dsimp only [List.eraseIdx] at HS
         replace HS := HS.front 1 rfl
         exact by (
         dsimp only [List.eraseIdx] at HS
         replace HS := HS.deriveO (p := (cF kI A94 x0.f6)) (fun W_ hO_ hN_ => hO_.1)
         replace HS := HS.deriveN (p := (rF kU xs87 I89)) (fun _ _ => HS.getO 3 rfl)
         obtain ⟨t98, ha99, H⟩ := bind_some H
         refine c_ func17 (iput.runs k b16 v88 I89 (⟨xs87⟩ : S49) 0 A94 c95 x0.f6 t98 le97 HS ha99) ?_
         clear ha99
         rintro _ w100 ⟨v101, I102, rfl, HS⟩
         replace HS := HS.deriveO (p := (rF kU t98.f0 I102)) (fun W_ hO_ hN_ => hN_.1)
         refine ⟨_, rfl, ?_⟩
         refine dn_ hK93 (sr_ fun _ hK103 => ?_)
         clear hK93
         refine mv_ ?_
         refine v_ (fa_ underlying33) ?_
         obtain ⟨A104, c105, hc106, le107, HS⟩ := HS.sO 6 rfl at33_8
         obtain ⟨A108, c109, hc110, le111, HS⟩ := HS.sO 7 rfl at33_9
         refine v_ (ls_ (HS.mu 2 rfl) underlying29 (part_cons (at33_7 (HS.aO 8 rfl)).int (part_cons hc106 (part_cons hc110 (part_cons (at33_10 (HS.aO 8 rfl)).int (part_cons (at33_11 (HS.aO 8 rfl)).int part_nil)))))) ?_
         exact by (
         replace HS := HS.front 1 rfl
         dsimp only [List.eraseIdx] at HS
         replace HS := HS.front 1 rfl
         dsimp only [List.eraseIdx] at HS
         replace HS := HS.deriveO (p := (cF kS3 A108 x0.f7.f2)) (fun W_ hO_ hN_ => hO_.1)
         replace HS := HS.deriveO (p := (cF kS3 A104 x0.f7.f1)) (fun W_ hO_ hN_ => hO_.2.2.1)
         replace HS := HS.deriveN (p := (rF kU t98.f0 I102)) (fun _ _ => HS.getO 4 rfl)
         obtain ⟨t112, ha113, H⟩ := bind_some H
         refine c_ func19 (imatri1.runs k b16 v101 I102 (⟨t98.f0⟩ : S49) x0.f7 A104 c105 A108 c109 t112 le107 le111 HS ha113) ?_
         clear ha113
         rintro _ w114 ⟨v115, I116, rfl, HS⟩
         replace HS := HS.deriveO (p := (rF kU t112.f0 I116)) (fun W_ hO_ hN_ => hN_.1)
         refine ⟨_, rfl, ?_⟩
         refine dn_ hK103 (sr_ fun _ hK117 => ?_)
         clear hK103
         refine mv_ ?_
         exact by (
         refine v_ (fa_ underlying33) ?_
         refine v_ (fa_ underlying31) ?_
         obtain ⟨A118, c119, hc120, le121, HS⟩ := HS.sO 9 rfl at33_12
         refine v_ (lb_ (HS.mu 2 rfl) underlying25 hc120) ?_
         replace HS := HS.front 1 rfl
         dsimp only [List.eraseIdx] at HS
         replace HS := HS.front 1 rfl
         dsimp only [List.eraseIdx] at HS
         replace HS := HS.deriveO (p := (cF kS3 A118 x0.f8.f0)) (fun W_ hO_ hN_ => hO_.1)
         replace HS := HS.deriveN (p := (rF kU t112.f0 I116)) (fun _ _ => HS.getO 2 rfl)
         obtain ⟨t122, ha123, H⟩ := bind_some H
         refine c_ func20 (iturns.runs k b16 v115 I116 (⟨t112.f0⟩ : S49) A118 c119 x0.f8.f0 t122 le121 HS ha123) ?_
         clear ha123
         rintro _ w124 ⟨v125, I126, rfl, HS⟩
         replace HS := HS.deriveO (p := (rF kU t122.f0 I126)) (fun W_ hO_ hN_ => hN_.1)
         refine ⟨_, rfl, ?_⟩
         exact by (
         refine dn_ hK117 (sr_ fun _ hK127 => ?_)
         clear hK117
         refine mv_ ?_
         refine v_ (fa_ underlying33) ?_
         refine v_ (fa_ underlying31) ?_
         obtain ⟨A128, c129, hc130, le131, HS⟩ := HS.sO 11 rfl at33_13
         refine v_ (lb_ (HS.mu 2 rfl) underlying25 hc130) ?_
         replace HS := HS.front 1 rfl
         dsimp only [List.eraseIdx] at HS
         replace HS := HS.front 1 rfl
         dsimp only [List.eraseIdx] at HS
         replace HS := HS.deriveO (p := (cF kS3 A128 x0.f8.f1)) (fun W_ hO_ hN_ => hO_.1)
         replace HS := HS.deriveN (p := (rF kU t122.f0 I126)) (fun _ _ => HS.getO 2 rfl)
         obtain ⟨t132, ha133, H⟩ := bind_some H
         refine c_ func20 (iturns.runs k b16 v125 I126 (⟨t122.f0⟩ : S49) A128 c129 x0.f8.f1 t132 le131 HS ha133) ?_
         clear ha133
         exact by (
         rintro _ w134 ⟨v135, I136, rfl, HS⟩
         replace HS := HS.deriveO (p := (rF kU t132.f0 I136)) (fun W_ hO_ hN_ => hN_.1)
         refine ⟨_, rfl, ?_⟩
         refine dn_ hK127 (sr_ fun _ hK137 => ?_)
         clear hK127
         refine mv_ ?_
         refine v_ (Run.nilCheck rfl rfl) ?_
         refine v_ (fa_ underlying49) ?_
         obtain ⟨A138, c139, rfl⟩ := rowX_slice (HS.mu 1 rfl)
         refine v_ (lb_ (HS.mu 0 rfl) underlying22 rfl) ?_
         have le140 := rowX_le (HS.mu 1 rfl)
         replace HS := HS.freezeO 1 (p := (cF kU A138 (t132.f0))) rfl (fun W_ hm_ h_ => rowX_C (by rfl) hm_ h_.1)
         dsimp only [List.eraseIdx] at HS
         refine v_ (Run.str (xs := t132.f0) rfl underlying22 underlying5 underlying9 rfl (HS.getO 0 rfl)) ?_
         obtain ⟨t141, ha142, H⟩ := bind_some H
         refine cs_ HS func21 (impl_Sealed.calls k (strOfNums t132.f0) t141.1 t141.2 _ ha142) (fun w143 HS => ?_)
         exact by (
         clear ha142
         refine v_ (Run.extract rfl rfl rfl) ?_
         refine v_ (Run.extract rfl rfl rfl) ?_
         refine as_ ?_
         refine ad_ hK137 ?_
         clear hK137
         obtain ⟨rfl, rfl⟩ := Prod.mk.inj (os H)
         exact rt2 Try.f6 rfl rfl rfl hR_ ⟨rfl, HS.b⟩ ))))))
       clear hK80
       refine WC.loop (fun k_ E_ W_ => ∃ i86 xs87 v88 I89, (∃ o_, iMT.l0 x0 k_ i86 xs87 = some o_ ∧ G82 o_ = some (r1, r2)) ∧ J90 i86 xs87 v88 I89 E_ W_) k ⟨0, xs74, v75, I76, ⟨_, H, Ho85⟩, rfl, HS⟩ (sb rfl) ?_
       rintro k_ E_ w145 ⟨i86, xs87, v88, I89, ⟨oc84, H, Ho85⟩, rfl, HS⟩
       rcases k_ with _ | k146
       · exact no_ H
       replace H : iMT.b0 x0 (iMT.l0 x0 k146) k146 i86 xs87 = some oc84 := H
       unfold iMT.b0 at H
       refine sr_ fun _ hK147 => ?_
       exact by (
       refine b_ bin_lss ?_
       refine dn_ hK147 (WC.seq fun _ hK148 => ?_)
       clear hK147
       rcases eti_ H with ⟨c149, H⟩ | ⟨c149, H⟩
       · refine wn_ (dF c149) (WC.exit ?_)
         obtain rfl := os H
         exact wv_ iq X91 ⟨i86, xs87, v88, I89, Ho85, rfl, HS⟩
       refine wy_ (dT c149) (WC.skip (via_ hK148 (WC.seq fun _ hK150 => ?_)))
       clear hK148
       refine WC.block (sr_ fun _ hK151 => ?_)
       obtain ⟨⟨q152, q153⟩, H⟩ := if_some H
       obtain ⟨ad154, rfl⟩ := C_open (HS.getO 2 rfl) (by omega)
       refine v_ (ia_ underlying26 32 q152 q153) ?_
       obtain ⟨e155, el156, HS⟩ := HS.elO 2 rfl (by decide) o52 i86 q152 q153
       replace HS := HS.deriveO (p := (kF k52 (x0.f5.getD i86.toNat o52) e155)) (fun W_ hO_ hN_ => hO_.1.1)
       refine v_ (Run.loadS (cs := e155) rfl rfl underlying52 rfl (by rw [el156]; kernel_rfl) (HS.getO 1 rfl).2) ?_
       exact by (
       refine WL.alloc HS (v := .agg zz2) (cs := zz2) rfl rfl (by decide) rfl (by kernel_rfl) rfl (fun b157 w158 hb157 HS => ?_)
       refine WL.storeS HS 0 rfl rfl rfl rfl rfl rfl (Kd.K_one _ (HS.getO 0 rfl)) (by rw [el156]; kernel_rfl) (by rw [el156]; decide) (splice_all (by rw [el156]; rfl)) (fun w159 HS => ?_)
       dsimp only [List.set] at HS
       refine dn_ hK151 (sr_ fun _ hK160 => ?_)
       clear hK151
       refine mv_ ?_
       refine v_ (fa_ underlying52) ?_
       obtain ⟨A161, c162, hc163, le164, HS⟩ := HS.sO 0 rfl at52_0
       refine v_ (lb_ (HS.mu 0 rfl) underlying27 hc163) ?_
       replace HS := HS.front 2 rfl
       dsimp only [List.eraseIdx] at HS
       replace HS := HS.front 2 rfl
       dsimp only [List.eraseIdx] at HS
       replace HS := HS.deriveO (p := (cF kI A161 ((x0.f5.getD i86.toNat o52).f0))) (fun W_ hO_ hN_ => hO_.1)
       replace HS := HS.deriveN (p := (rF kU xs87 I89)) (fun _ _ => HS.getO 5 rfl)
       obtain ⟨t165, ha166, H⟩ := bind_some H
       exact by (
       refine c_ func17 (iput.runs k146 b16 v88 I89 (⟨xs87⟩ : S49) 0 A161 c162 ((x0.f5.getD i86.toNat o52).f0) t165 le164 HS ha166) ?_
       clear ha166
       rintro _ w167 ⟨v168, I169, rfl, HS⟩
       replace HS := HS.deriveO (p := (rF kU t165.f0 I169)) (fun W_ hO_ hN_ => hN_.1)
       refine ⟨_, rfl, ?_⟩
       refine dn_ hK160 (WC.seq fun K170 hK170 => ?_)
       clear hK160
       refine sr_ fun _ hK171 => ?_
       refine v_ (fa_ underlying52) ?_
       obtain ⟨A172, c173, hc174, le175, HS⟩ := HS.sO 2 rfl at52_2
       obtain ⟨A176, c177, hc178, le179, HS⟩ := HS.sO 3 rfl at52_3
       refine v_ (ls_ (HS.mu 2 rfl) underlying29 (part_cons (at52_1 (HS.aO 4 rfl)).int (part_cons hc174 (part_cons hc178 (part_cons (at52_4 (HS.aO 4 rfl)).int (part_cons (at52_5 (HS.aO 4 rfl)).int part_nil)))))) ?_
       refine v_ (fa_ underlying52) ?_
       obtain ⟨A180, c181, hc182, le183, HS⟩ := HS.sO 4 rfl at52_7
       obtain ⟨A184, c185, hc186, le187, HS⟩ := HS.sO 5 rfl at52_8
       refine v_ (ls_ (HS.mu 2 rfl) underlying29 (part_cons (at52_6 (HS.aO 6 rfl)).int (part_cons hc182 (part_cons hc186 (part_cons (at52_9 (HS.aO 6 rfl)).int (part_cons (at52_10 (HS.aO 6 rfl)).int part_nil)))))) ?_
       exact by (
       refine v_ (fa_ underlying52) ?_
       obtain ⟨A188, c189, hc190, le191, HS⟩ := HS.sO 6 rfl at52_12
       obtain ⟨A192, c193, hc194, le195, HS⟩ := HS.sO 7 rfl at52_13
       refine v_ (ls_ (HS.mu 2 rfl) underlying29 (part_cons (at52_11 (HS.aO 8 rfl)).int (part_cons hc190 (part_cons hc194 (part_cons (at52_14 (HS.aO 8 rfl)).int (part_cons (at52_15 (HS.aO 8 rfl)).int part_nil)))))) ?_
       refine v_ (fa_ underlying52) ?_
       obtain ⟨A196, c197, hc198, le199, HS⟩ := HS.sO 8 rfl at52_17
       obtain ⟨A200, c201, hc202, le203, HS⟩ := HS.sO 9 rfl at52_18
       refine v_ (ls_ (HS.mu 2 rfl) underlying29 (part_cons (at52_16 (HS.aO 10 rfl)).int (part_cons hc198 (part_cons hc202 (part_cons (at52_19 (HS.aO 10 rfl)).int (part_cons (at52_20 (HS.aO 10 rfl)).int part_nil)))))) ?_
       refine WL.litN HS (sz := 5) (z := (.agg #[vi 0, sn, sn, vi 0, vi 0])) rfl rfl (by decide) rfl [[vi ((x0.f5.getD i86.toNat o52).f1.f0), .slice A172 ((x0.f5.getD i86.toNat o52).f1.f1.length) c173, .slice A176 ((x0.f5.getD i86.toNat o52).f1.f2.length) c177, vi ((x0.f5.getD i86.toNat o52).f1.f3), vi ((x0.f5.getD i86.toNat o52).f1.f4)], [vi ((x0.f5.getD i86.toNat o52).f2.f0), .slice A180 ((x0.f5.getD i86.toNat o52).f2.f1.length) c181, .slice A184 ((x0.f5.getD i86.toNat o52).f2.f2.length) c185, vi ((x0.f5.getD i86.toNat o52).f2.f3), vi ((x0.f5.getD i86.toNat o52).f2.f4)], [vi ((x0.f5.getD i86.toNat o52).f3.f0), .slice A188 ((x0.f5.getD i86.toNat o52).f3.f1.length) c189, .slice A192 ((x0.f5.getD i86.toNat o52).f3.f2.length) c193, vi ((x0.f5.getD i86.toNat o52).f3.f3), vi ((x0.f5.getD i86.toNat o52).f3.f4)], [vi ((x0.f5.getD i86.toNat o52).f4.f0), .slice A196 ((x0.f5.getD i86.toNat o52).f4.f1.length) c197, .slice A200 ((x0.f5.getD i86.toNat o52).f4.f2.length) c201, vi ((x0.f5.getD i86.toNat o52).f4.f3), vi ((x0.f5.getD i86.toNat o52).f4.f4)]] ⟨⟨rfl, _, rfl, rfl, rfl⟩, ⟨⟨rfl, _, rfl, rfl, rfl⟩, ⟨⟨rfl, _, rfl, rfl, rfl⟩, ⟨⟨rfl, _, rfl, rfl, rfl⟩, trivial⟩⟩⟩⟩ rfl underlying56 (by kernel_rfl) (by decide) (by decide) (fun v204 w205 HS => ?_)
       replace HS := HS.deriveO (p := (rF k29 [(x0.f5.getD i86.toNat o52).f1, (x0.f5.getD i86.toNat o52).f2, (x0.f5.getD i86.toNat o52).f3, (x0.f5.getD i86.toNat o52).f4] (List.flatten [[vi ((x0.f5.getD i86.toNat o52).f1.f0), .slice A172 ((x0.f5.getD i86.toNat o52).f1.f1.length) c173, .slice A176 ((x0.f5.getD i86.toNat o52).f1.f2.length) c177, vi ((x0.f5.getD i86.toNat o52).f1.f3), vi ((x0.f5.getD i86.toNat o52).f1.f4)], [vi ((x0.f5.getD i86.toNat o52).f2.f0), .slice A180 ((x0.f5.getD i86.toNat o52).f2.f1.length) c181, .slice A184 ((x0.f5.getD i86.toNat o52).f2.f2.length) c185, vi ((x0.f5.getD i86.toNat o52).f2.f3), vi ((x0.f5.getD i86.toNat o52).f2.f4)], [vi ((x0.f5.getD i86.toNat o52).f3.f0), .slice A188 ((x0.f5.getD i86.toNat o52).f3.f1.length) c189, .slice A192 ((x0.f5.getD i86.toNat o52).f3.f2.length) c193, vi ((x0.f5.getD i86.toNat o52).f3.f3), vi ((x0.f5.getD i86.toNat o52).f3.f4)], [vi ((x0.f5.getD i86.toNat o52).f4.f0), .slice A196 ((x0.f5.getD i86.toNat o52).f4.f1.length) c197, .slice A200 ((x0.f5.getD i86.toNat o52).f4.f2.length) c201, vi ((x0.f5.getD i86.toNat o52).f4.f3), vi ((x0.f5.getD i86.toNat o52).f4.f4)]]))) (fun W_ hO_ hN_ => reps_lit ⟨(k29_mk _ ((x0.f5.getD i86.toNat o52).f1) (le175) hO_.2.2.2.2.2.2.2.1 (le179) hO_.2.2.2.2.2.2.1), ⟨(k29_mk _ ((x0.f5.getD i86.toNat o52).f2) (le183) hO_.2.2.2.2.2.1 (le187) hO_.2.2.2.2.1), ⟨(k29_mk _ ((x0.f5.getD i86.toNat o52).f3) (le191) hO_.2.2.2.1 (le195) hO_.2.2.1), ⟨(k29_mk _ ((x0.f5.getD i86.toNat o52).f4) (le199) hO_.2.1 (le203) hO_.1), trivial⟩⟩⟩⟩)
       obtain ⟨A206, c207, rfl⟩ := row_slice (HS.mu 0 rfl)
       refine ln_ underlying56 ?_
       refine mv_ ?_
       refine dn_ hK171 (WC.block ?_)
       clear hK171
       have le208 := row_le (HS.mu 0 rfl)
       exact by (
       replace HS := HS.freezeO 0 (p := (fun W => k29.C W A206 4 ([(x0.f5.getD i86.toNat o52).f1, (x0.f5.getD i86.toNat o52).f2, (x0.f5.getD i86.toNat o52).f3, (x0.f5.getD i86.toNat o52).f4]))) rfl (fun W_ hm_ h_ => row_C (by simp) hm_ h_.1)
       dsimp only [List.eraseIdx] at HS
       obtain ⟨G209, hG210, oc211, H, Ho212⟩ := open_G H
       let J217 := fun (i213 : Int) (xs214 : List Int) v215 I216 (E_ : Env) (W_ : World) => E_ = [(1, .pointer (some ⟨b2, 0, none⟩)), (4, .pointer (some ⟨b16, 0, none⟩)), (12, .pointer (some ⟨b157, 0, none⟩)), (80, .slice (some ad154) x0.f5.length c24), (81, vi (x0.f5.length : Int)), (82, vi i86), (98, .slice A206 4 c207), (99, vi (4 : Int)), (100, vi i213)] ∧ St (fun _ => True) w W_ [boxM b16 #[v215] 49, rowX w.heap.size 5 1 v215 xs214.length I216, boxM b157 e155.toArray 52, boxM b2 cs0.toArray 33] [(fun W => k29.C W A206 4 ([(x0.f5.getD i86.toNat o52).f1, (x0.f5.getD i86.toNat o52).f2, (x0.f5.getD i86.toNat o52).f3, (x0.f5.getD i86.toNat o52).f4])), (cF kS3 A200 (x0.f5.getD i86.toNat o52).f4.f2), (cF kS3 A196 (x0.f5.getD i86.toNat o52).f4.f1), (cF kS3 A192 (x0.f5.getD i86.toNat o52).f3.f2), (cF kS3 A188 (x0.f5.getD i86.toNat o52).f3.f1), (cF kS3 A184 (x0.f5.getD i86.toNat o52).f2.f2), (cF kS3 A180 (x0.f5.getD i86.toNat o52).f2.f1), (cF kS3 A176 (x0.f5.getD i86.toNat o52).f1.f2), (cF kS3 A172 (x0.f5.getD i86.toNat o52).f1.f1), (rF kU xs214 I216), (cF kI A161 (x0.f5.getD i86.toNat o52).f0), (kF k52 (x0.f5.getD i86.toNat o52) e155), (cF kS3 A65 x0.f4), (cF k52 (some ad154) x0.f5), (cF k54 A19 x0.f3), (kF k33 x0 cs0)] []
       have X218 : ∀ E_ W_, (∃ i213 xs214 v215 I216, G209 (i213, xs214) = some oc84 ∧ J217 i213 xs214 v215 I216 E_ W_) → ∀ a, Fits a 147 E_ → K170 a W_ := by
         rintro E_ w219 ⟨i213, xs214, v215, I216, H, rfl, HS⟩
         rw [hG210] at H
         (try dsimp only at H)
         refine hK170 _ _ ?_
         clear hK170
         refine sr_ fun _ hK220 => ?_
         refine mv_ ?_
         refine v_ (fa_ underlying52) ?_
         obtain ⟨A221, c222, hc223, le224, HS⟩ := HS.sO 11 rfl at52_21
         refine v_ (lb_ (HS.mu 2 rfl) underlying27 hc223) ?_
         replace HS := HS.front 1 rfl
         exact by (
         dsimp only [List.eraseIdx] at HS
         replace HS := HS.front 1 rfl
         dsimp only [List.eraseIdx] at HS
         replace HS := HS.deriveO (p := (cF kI A221 ((x0.f5.getD i86.toNat o52).f5))) (fun W_ hO_ hN_ => hO_.1)
         replace HS := HS.deriveN (p := (rF kU xs214 I216)) (fun _ _ => HS.getO 11 rfl)
         obtain ⟨t225, ha226, H⟩ := bind_some H
         refine c_ func17 (iput.runs k146 b16 v215 I216 (⟨xs214⟩ : S49) 0 A221 c222 ((x0.f5.getD i86.toNat o52).f5) t225 le224 HS ha226) ?_
         clear ha226
         rintro _ w227 ⟨v228, I229, rfl, HS⟩
         replace HS := HS.deriveO (p := (rF kU t225.f0 I229)) (fun W_ hO_ hN_ => hN_.1)
         refine ⟨_, rfl, ?_⟩
         refine dn_ hK220 (sr_ fun _ hK230 => ?_)
         clear hK220
         refine mv_ ?_
         refine v_ (fa_ underlying52) ?_
         obtain ⟨A231, c232, hc233, le234, HS⟩ := HS.sO 13 rfl at52_23
         exact by (
         obtain ⟨A235, c236, hc237, le238, HS⟩ := HS.sO 14 rfl at52_24
         refine v_ (ls_ (HS.mu 2 rfl) underlying29 (part_cons (at52_22 (HS.aO 15 rfl)).int (part_cons hc233 (part_cons hc237 (part_cons (at52_25 (HS.aO 15 rfl)).int (part_cons (at52_26 (HS.aO 15 rfl)).int part_nil)))))) ?_
         replace HS := HS.front 1 rfl
         dsimp only [List.eraseIdx] at HS
         replace HS := HS.front 1 rfl
         dsimp only [List.eraseIdx] at HS
         replace HS := HS.deriveO (p := (cF kS3 A235 ((x0.f5.getD i86.toNat o52).f6.f2))) (fun W_ hO_ hN_ => hO_.1)
         replace HS := HS.deriveO (p := (cF kS3 A231 ((x0.f5.getD i86.toNat o52).f6.f1))) (fun W_ hO_ hN_ => hO_.2.2.1)
         replace HS := HS.deriveN (p := (rF kU t225.f0 I229)) (fun _ _ => HS.getO 4 rfl)
         obtain ⟨t239, ha240, H⟩ := bind_some H
         refine c_ func19 (imatri1.runs k146 b16 v228 I229 (⟨t225.f0⟩ : S49) ((x0.f5.getD i86.toNat o52).f6) A231 c232 A235 c236 t239 le234 le238 HS ha240) ?_
         clear ha240
         rintro _ w241 ⟨v242, I243, rfl, HS⟩
         replace HS := HS.deriveO (p := (rF kU t239.f0 I243)) (fun W_ hO_ hN_ => hN_.1)
         refine ⟨_, rfl, ?_⟩
         refine dn_ hK230 (rg_ (mv_ ?_))
         exact by (
         clear hK230
         refine v_ (fa_ underlying52) ?_
         obtain ⟨A244, c245, hc246, le247, HS⟩ := HS.sO 16 rfl at52_28
         obtain ⟨A248, c249, hc250, le251, HS⟩ := HS.sO 17 rfl at52_29
         refine v_ (ls_ (HS.mu 2 rfl) underlying29 (part_cons (at52_27 (HS.aO 18 rfl)).int (part_cons hc246 (part_cons hc250 (part_cons (at52_30 (HS.aO 18 rfl)).int (part_cons (at52_31 (HS.aO 18 rfl)).int part_nil)))))) ?_
         replace HS := HS.front 1 rfl
         dsimp only [List.eraseIdx] at HS
         replace HS := HS.front 1 rfl
         dsimp only [List.eraseIdx] at HS
         replace HS := HS.deriveO (p := (cF kS3 A248 ((x0.f5.getD i86.toNat o52).f7.f2))) (fun W_ hO_ hN_ => hO_.1)
         replace HS := HS.deriveO (p := (cF kS3 A244 ((x0.f5.getD i86.toNat o52).f7.f1))) (fun W_ hO_ hN_ => hO_.2.2.1)
         replace HS := HS.deriveN (p := (rF kU t239.f0 I243)) (fun _ _ => HS.getO 4 rfl)
         obtain ⟨t252, ha253, H⟩ := bind_some H
         refine c_ func19 (imatri1.runs k146 b16 v242 I243 (⟨t239.f0⟩ : S49) ((x0.f5.getD i86.toNat o52).f7) A244 c245 A248 c249 t252 le247 le251 HS ha253) ?_
         clear ha253
         rintro _ w254 ⟨v255, I256, rfl, HS⟩
         exact by (
         replace HS := HS.deriveO (p := (rF kU t252.f0 I256)) (fun W_ hO_ hN_ => hN_.1)
         refine ⟨_, rfl, ?_⟩
         refine dn_ hK150 (rg_ (b_ bin_add64 ?_))
         clear hK150
         refine mv_ ?_
         refine WL.done ?_
         exact wr_ k146 iq ⟨(wrap64 (i86 + 1)), t252.f0, v255, I256, ⟨_, H, Ho85⟩, rfl, (St.pk (St.forget HS 2 rfl) [20, 0, 21, 22, 23] [] rfl rfl)⟩ ))))
       clear hK170
       refine WC.loop (fun k_ E_ W_ => ∃ i213 xs214 v215 I216, (∃ o_, iMT.l1 x0 i86 k_ i213 xs214 = some o_ ∧ G209 o_ = some oc84) ∧ J217 i213 xs214 v215 I216 E_ W_) k146 ⟨0, t165.f0, v168, I169, ⟨_, H, Ho212⟩, rfl, (St.pk HS [0, 2, 3, 4, 5, 6, 7, 8, 9, 10, 11, 12, 14, 16, 17, 18] [] rfl rfl)⟩ (sb rfl) ?_
       rintro k_ E_ w258 ⟨i213, xs214, v215, I216, ⟨oc211, H, Ho212⟩, rfl, HS⟩
       rcases k_ with _ | k259
       · exact no_ H
       replace H : iMT.b1 x0 i86 (iMT.l1 x0 i86 k259) k259 i213 xs214 = some oc211 := H
       unfold iMT.b1 at H
       refine sr_ fun _ hK260 => ?_
       refine b_ bin_lss ?_
       exact by (
       refine dn_ hK260 (WC.seq fun _ hK261 => ?_)
       clear hK260
       rcases eti_ H with ⟨c262, H⟩ | ⟨c262, H⟩
       · refine wn_ (dF c262) (WC.exit ?_)
         obtain rfl := os H
         exact wv_ iq X218 ⟨i213, xs214, v215, I216, Ho212, rfl, HS⟩
       refine wy_ (dT c262) (WC.skip (via_ hK261 (WC.seq fun _ hK263 => ?_)))
       clear hK261
       refine WC.block (sr_ fun _ hK264 => ?_)
       obtain ⟨⟨q265, q266⟩, H⟩ := if_some H
       obtain ⟨ad267, rfl⟩ := C_open (HS.getO 0 rfl) (by omega)
       refine v_ (ia_ underlying56 5 q265 q266) ?_
       obtain ⟨e268, el269, HS⟩ := HS.elO 0 rfl (by decide) o29 i213 q265 q266
       obtain ⟨A270, c271, hc272, le273, HS⟩ := HS.eO 0 rfl at29_1
       obtain ⟨A274, c275, hc276, le277, HS⟩ := HS.eO 1 rfl at29_2
       refine v_ (Run.loadS (cs := [vi ((([(x0.f5.getD i86.toNat o52).f1, (x0.f5.getD i86.toNat o52).f2, (x0.f5.getD i86.toNat o52).f3, (x0.f5.getD i86.toNat o52).f4]).getD i213.toNat o29).f0), .slice A270 ((([(x0.f5.getD i86.toNat o52).f1, (x0.f5.getD i86.toNat o52).f2, (x0.f5.getD i86.toNat o52).f3, (x0.f5.getD i86.toNat o52).f4]).getD i213.toNat o29).f1.length) c271, .slice A274 ((([(x0.f5.getD i86.toNat o52).f1, (x0.f5.getD i86.toNat o52).f2, (x0.f5.getD i86.toNat o52).f3, (x0.f5.getD i86.toNat o52).f4]).getD i213.toNat o29).f2.length) c275, vi ((([(x0.f5.getD i86.toNat o52).f1, (x0.f5.getD i86.toNat o52).f2, (x0.f5.getD i86.toNat o52).f3, (x0.f5.getD i86.toNat o52).f4]).getD i213.toNat o29).f3), vi ((([(x0.f5.getD i86.toNat o52).f1, (x0.f5.getD i86.toNat o52).f2, (x0.f5.getD i86.toNat o52).f3, (x0.f5.getD i86.toNat o52).f4]).getD i213.toNat o29).f4)]) rfl rfl underlying29 rfl (by kernel_rfl) (cells_part (HS.getO 2 rfl).2 (part_cons (at29_0 (AtK.whole (HS.getO 2 rfl).1)).int (part_cons hc272 (part_cons hc276 (part_cons (at29_3 (AtK.whole (HS.getO 2 rfl).1)).int (part_cons (at29_4 (AtK.whole (HS.getO 2 rfl).1)).int part_nil))))))) ?_
       exact by (
       refine WL.alloc HS (v := .agg #[vi 0, sn, sn, vi 0, vi 0]) (cs := #[vi 0, sn, sn, vi 0, vi 0]) rfl rfl (by decide) rfl (by kernel_rfl) rfl (fun b278 w279 hb278 HS => ?_)
       refine WL.storeW HS 0 rfl rfl rfl rfl rfl rfl (oneL rfl) (by kernel_rfl) rfl (fun w280 HS => ?_)
       dsimp only [List.set] at HS
       refine dn_ hK264 (rg_ (mv_ ?_))
       clear hK264
       refine v_ (ls_ (HS.mu 0 rfl) underlying29 part_all) ?_
       replace HS := HS.front 2 rfl
       dsimp only [List.eraseIdx] at HS
       replace HS := HS.front 2 rfl
       dsimp only [List.eraseIdx] at HS
       replace HS := HS.deriveO (p := (cF kS3 A274 ((([(x0.f5.getD i86.toNat o52).f1, (x0.f5.getD i86.toNat o52).f2, (x0.f5.getD i86.toNat o52).f3, (x0.f5.getD i86.toNat o52).f4]).getD i213.toNat o29).f2))) (fun W_ hO_ hN_ => hO_.1)
       replace HS := HS.deriveO (p := (cF kS3 A270 ((([(x0.f5.getD i86.toNat o52).f1, (x0.f5.getD i86.toNat o52).f2, (x0.f5.getD i86.toNat o52).f3, (x0.f5.getD i86.toNat o52).f4]).getD i213.toNat o29).f1))) (fun W_ hO_ hN_ => hO_.2.2.1)
       replace HS := HS.deriveN (p := (rF kU xs214 I216)) (fun _ _ => HS.getO 14 rfl)
       obtain ⟨t281, ha282, H⟩ := bind_some H
       refine c_ func19 (imatri1.runs k259 b16 v215 I216 (⟨xs214⟩ : S49) (⟨(([(x0.f5.getD i86.toNat o52).f1, (x0.f5.getD i86.toNat o52).f2, (x0.f5.getD i86.toNat o52).f3, (x0.f5.getD i86.toNat o52).f4]).getD i213.toNat o29).f0, (([(x0.f5.getD i86.toNat o52).f1, (x0.f5.getD i86.toNat o52).f2, (x0.f5.getD i86.toNat o52).f3, (x0.f5.getD i86.toNat o52).f4]).getD i213.toNat o29).f1, (([(x0.f5.getD i86.toNat o52).f1, (x0.f5.getD i86.toNat o52).f2, (x0.f5.getD i86.toNat o52).f3, (x0.f5.getD i86.toNat o52).f4]).getD i213.toNat o29).f2, (([(x0.f5.getD i86.toNat o52).f1, (x0.f5.getD i86.toNat o52).f2, (x0.f5.getD i86.toNat o52).f3, (x0.f5.getD i86.toNat o52).f4]).getD i213.toNat o29).f3, (([(x0.f5.getD i86.toNat o52).f1, (x0.f5.getD i86.toNat o52).f2, (x0.f5.getD i86.toNat o52).f3, (x0.f5.getD i86.toNat o52).f4]).getD i213.toNat o29).f4⟩ : S29) A270 c271 A274 c275 t281 le273 le277 HS ha282) ?_
       clear ha282
       exact by (
       rintro _ w283 ⟨v284, I285, rfl, HS⟩
       replace HS := HS.deriveO (p := (rF kU t281.f0 I285)) (fun W_ hO_ hN_ => hN_.1)
       refine ⟨_, rfl, ?_⟩
       refine dn_ hK263 (rg_ (b_ bin_add64 ?_))
       clear hK263
       refine mv_ ?_
       refine WL.done ?_
       exact wr_ k259 iq ⟨(wrap64 (i213 + 1)), t281.f0, v284, I285, ⟨_, H, Ho212⟩, rfl, (St.pk (St.forget HS 2 rfl) [4, 5, 6, 7, 8, 9, 10, 11, 12, 0, 14, 15, 16, 17, 18, 19] [] rfl rfl)⟩ )))))))))
     clear hK63
     refine WC.loop (fun k_ E_ W_ => ∃ i73 xs74 v75 I76, (∃ o_, iMT.l2 x0 k_ i73 xs74 = some o_ ∧ G69 o_ = some (r1, r2)) ∧ J77 i73 xs74 v75 I76 E_ W_) k ⟨0, xs57, v58, I59, ⟨_, H, Ho72⟩, rfl, HS⟩ (sb rfl) ?_
     rintro k_ E_ w287 ⟨i73, xs74, v75, I76, ⟨oc71, H, Ho72⟩, rfl, HS⟩
     rcases k_ with _ | k288
     · exact no_ H
     replace H : iMT.b2 x0 (iMT.l2 x0 k288) k288 i73 xs74 = some oc71 := H
     unfold iMT.b2 at H
     refine sr_ fun _ hK289 => ?_
     exact by (
     refine b_ bin_lss ?_
     refine dn_ hK289 (WC.seq fun _ hK290 => ?_)
     clear hK289
     rcases eti_ H with ⟨c291, H⟩ | ⟨c291, H⟩
     · refine wn_ (dF c291) (WC.exit ?_)
       obtain rfl := os H
       exact wv_ iq X78 ⟨i73, xs74, v75, I76, Ho72, rfl, HS⟩
     refine wy_ (dT c291) (WC.skip (via_ hK290 (WC.seq fun _ hK292 => ?_)))
     clear hK290
     refine WC.block (sr_ fun _ hK293 => ?_)
     obtain ⟨⟨q294, q295⟩, H⟩ := if_some H
     obtain ⟨ad296, rfl⟩ := C_open (HS.getO 0 rfl) (by omega)
     refine v_ (ia_ underlying25 1 q294 q295) ?_
     obtain ⟨A297, c298, le299, HS⟩ := HS.slO 0 rfl i73 q294 q295
     refine v_ (Run.load rfl rfl underlying27 rfl (HS.getO 1 rfl)) ?_
     refine ad_ hK293 ?_
     exact by (
     clear hK293
     refine rg_ (mv_ ?_)
     refine mv_ ?_
     replace HS := HS.front 1 rfl
     dsimp only [List.eraseIdx] at HS
     replace HS := HS.front 1 rfl
     dsimp only [List.eraseIdx] at HS
     replace HS := HS.deriveO (p := (cF kI A297 (x0.f4.getD i73.toNat []))) (fun W_ hO_ hN_ => hO_.1)
     replace HS := HS.deriveN (p := (rF kU xs74 I76)) (fun _ _ => HS.getO 4 rfl)
     obtain ⟨t300, ha301, H⟩ := bind_some H
     refine c_ func17 (iput.runs k288 b16 v75 I76 (⟨xs74⟩ : S49) 128 A297 c298 (x0.f4.getD i73.toNat []) t300 le299 HS ha301) ?_
     clear ha301
     rintro _ w302 ⟨v303, I304, rfl, HS⟩
     replace HS := HS.deriveO (p := (rF kU t300.f0 I304)) (fun W_ hO_ hN_ => hN_.1)
     refine ⟨_, rfl, ?_⟩
     refine dn_ hK292 (rg_ (b_ bin_add64 ?_))
     exact by (
     clear hK292
     refine mv_ ?_
     refine WL.done ?_
     exact wr_ k288 iq ⟨(wrap64 (i73 + 1)), t300.f0, v303, I304, ⟨_, H, Ho72⟩, rfl, (St.pk HS [3, 0, 5, 6, 7] [] rfl rfl)⟩ ))))
   clear hK50
   refine WC.loop (fun k_ E_ W_ => ∃ i56 xs57 v58 I59, (∃ o_, iMT.l3 x0 k_ i56 xs57 = some o_ ∧ G52 o_ = some (r1, r2)) ∧ J60 i56 xs57 v58 I59 E_ W_) k ⟨0, xs44, v45, I46, ⟨_, H, Ho55⟩, rfl, HS⟩ (sb rfl) ?_
   rintro k_ E_ w306 ⟨i56, xs57, v58, I59, ⟨oc54, H, Ho55⟩, rfl, HS⟩
   rcases k_ with _ | k307
   · exact no_ H
   replace H : iMT.b3 x0 (iMT.l3 x0 k307) k307 i56 xs57 = some oc54 := H
   unfold iMT.b3 at H
   refine sr_ fun _ hK308 => ?_
   refine b_ bin_lss ?_
   refine dn_ hK308 (WC.seq fun _ hK309 => ?_)
   clear hK308
   rcases eti_ H with ⟨c310, H⟩ | ⟨c310, H⟩
   · refine wn_ (dF c310) (WC.exit ?_)
     obtain rfl := os H
     exact wv_ iq X61 ⟨i56, xs57, v58, I59, Ho55, rfl, HS⟩
   exact by (
   refine wy_ (dT c310) (WC.skip (via_ hK309 (WC.seq fun _ hK311 => ?_)))
   clear hK309
   refine WC.block (sr_ fun _ hK312 => ?_)
   obtain ⟨⟨q313, q314⟩, H⟩ := if_some H
   obtain ⟨ad315, rfl⟩ := C_open (HS.getO 2 rfl) (by omega)
   refine v_ (ia_ underlying24 2 q313 q314) ?_
   obtain ⟨e316, el317, HS⟩ := HS.elO 2 rfl (by decide) o54 i56 q313 q314
   refine v_ (Run.loadS (cs := [vi ((x0.f3.getD i56.toNat o54).f0), vi ((x0.f3.getD i56.toNat o54).f1)]) rfl rfl underlying54 rfl (by kernel_rfl) (cells_part (HS.getO 0 rfl).2 (part_cons (at54_0 (AtK.whole (HS.getO 0 rfl).1)).int (part_cons (at54_1 (AtK.whole (HS.getO 0 rfl).1)).int part_nil)))) ?_
   refine WL.alloc HS (v := .agg #[vi 0, vi 0]) (cs := #[vi 0, vi 0]) rfl rfl (by decide) rfl (by kernel_rfl) rfl (fun b318 w319 hb318 HS => ?_)
   refine WL.storeW HS 0 rfl rfl rfl rfl rfl rfl (oneL rfl) (by kernel_rfl) rfl (fun w320 HS => ?_)
   dsimp only [List.set] at HS
   refine dn_ hK312 (sr_ fun _ hK321 => ?_)
   clear hK312
   refine mv_ ?_
   refine v_ (fa_ underlying54) ?_
   refine v_ (lb_ (HS.mu 0 rfl) underlying3 rfl) ?_
   exact by (
   replace HS := HS.front 2 rfl
   dsimp only [List.eraseIdx] at HS
   replace HS := HS.front 2 rfl
   dsimp only [List.eraseIdx] at HS
   replace HS := HS.deriveN (p := (rF kU xs57 I59)) (fun _ _ => HS.getO 1 rfl)
   obtain ⟨t322, ha323, H⟩ := bind_some H
   refine c_ func18 (iwide.runs k307 b16 v58 I59 (⟨xs57⟩ : S49) ((x0.f3.getD i56.toNat o54).f0) 2 t322 HS ha323) ?_
   clear ha323
   rintro _ w324 ⟨v325, I326, rfl, HS⟩
   replace HS := HS.deriveO (p := (rF kU t322.f0 I326)) (fun W_ hO_ hN_ => hN_.1)
   refine ⟨_, rfl, ?_⟩
   refine dn_ hK321 (rg_ (mv_ ?_))
   clear hK321
   refine v_ (fa_ underlying54) ?_
   refine v_ (lb_ (HS.mu 2 rfl) underlying3 rfl) ?_
   replace HS := HS.front 1 rfl
   exact by (
   dsimp only [List.eraseIdx] at HS
   replace HS := HS.front 1 rfl
   dsimp only [List.eraseIdx] at HS
   replace HS := HS.deriveN (p := (rF kU t322.f0 I326)) (fun _ _ => HS.getO 0 rfl)
   obtain ⟨t327, ha328, H⟩ := bind_some H
   refine c_ func18 (iwide.runs k307 b16 v325 I326 (⟨t322.f0⟩ : S49) ((x0.f3.getD i56.toNat o54).f1) 2 t327 HS ha328) ?_
   clear ha328
   rintro _ w329 ⟨v330, I331, rfl, HS⟩
   replace HS := HS.deriveO (p := (rF kU t327.f0 I331)) (fun W_ hO_ hN_ => hN_.1)
   refine ⟨_, rfl, ?_⟩
   refine dn_ hK311 (rg_ (b_ bin_add64 ?_))
   clear hK311
   refine mv_ ?_
   refine WL.done ?_
   exact wr_ k307 iq ⟨(wrap64 (i56 + 1)), t327.f0, v330, I331, ⟨_, H, Ho55⟩, rfl, (St.pk (St.forget HS 2 rfl) [0, 4, 5, 6] [] rfl rfl)⟩ ))))
 clear hK37
 exact by (
 refine WC.loop (fun k_ E_ W_ => ∃ i43 xs44 v45 I46, (∃ o_, iMT.l4 x0 k_ i43 xs44 = some o_ ∧ G39 o_ = some (r1, r2)) ∧ J47 i43 xs44 v45 I46 E_ W_) k ⟨0, t32.f0, v35, I36, ⟨_, H, Ho42⟩, rfl, (St.pk HS [0, 3, 4, 6] [] rfl rfl)⟩ (sb rfl) ?_
 rintro k_ E_ w333 ⟨i43, xs44, v45, I46, ⟨oc41, H, Ho42⟩, rfl, HS⟩
 rcases k_ with _ | k334
 · exact no_ H
 replace H : iMT.b4 x0 (iMT.l4 x0 k334) k334 i43 xs44 = some oc41 := H
 unfold iMT.b4 at H
 refine sr_ fun _ hK335 => ?_
 refine b_ bin_lss ?_
 refine dn_ hK335 (WC.seq fun _ hK336 => ?_)
 clear hK335
 rcases eti_ H with ⟨c337, H⟩ | ⟨c337, H⟩
 · refine wn_ (dF c337) (WC.exit ?_)
   obtain rfl := os H
   exact wv_ iq X48 ⟨i43, xs44, v45, I46, Ho42, rfl, HS⟩
 refine wy_ (dT c337) (WC.skip (via_ hK336 (WC.seq fun _ hK338 => ?_)))
 clear hK336
 exact by (
 refine WC.block (sr_ fun _ hK339 => ?_)
 obtain ⟨⟨q340, q341⟩, H⟩ := if_some H
 obtain ⟨ad342, rfl⟩ := C_open (HS.getO 1 rfl) (by omega)
 refine v_ (ia_ underlying26 32 q340 q341) ?_
 obtain ⟨e343, el344, HS⟩ := HS.elO 1 rfl (by decide) o52 i43 q340 q341
 replace HS := HS.deriveO (p := (kF k52 (x0.f5.getD i43.toNat o52) e343)) (fun W_ hO_ hN_ => hO_.1.1)
 refine v_ (Run.loadS (cs := e343) rfl rfl underlying52 rfl (by rw [el344]; kernel_rfl) (HS.getO 1 rfl).2) ?_
 refine WL.alloc HS (v := .agg zz2) (cs := zz2) rfl rfl (by decide) rfl (by kernel_rfl) rfl (fun b345 w346 hb345 HS => ?_)
 refine WL.storeS HS 0 rfl rfl rfl rfl rfl rfl (Kd.K_one _ (HS.getO 0 rfl)) (by rw [el344]; kernel_rfl) (by rw [el344]; decide) (splice_all (by rw [el344]; rfl)) (fun w347 HS => ?_)
 dsimp only [List.set] at HS
 refine dn_ hK339 (rg_ (mv_ ?_))
 clear hK339
 refine v_ (fa_ underlying52) ?_
 refine v_ (fa_ underlying29) ?_
 obtain ⟨A348, c349, hc350, le351, HS⟩ := HS.sO 0 rfl at52_23
 refine v_ (lb_ (HS.mu 0 rfl) underlying25 hc350) ?_
 exact by (
 refine ln_ underlying25 ?_
 refine WL.litN HS (sz := 1) (z := (vi 0)) rfl rfl (by decide) rfl [[vi ((x0.f5.getD i43.toNat o52).f6.f1.length : Int)]] ⟨⟨rfl, _, rfl, rfl, rfl⟩, trivial⟩ rfl underlying27 (by kernel_rfl) (by decide) (by decide) (fun v352 w353 HS => ?_)
 replace HS := HS.deriveO (p := (rF kI [((x0.f5.getD i43.toNat o52).f6.f1.length : Int)] (List.flatten [[vi ((x0.f5.getD i43.toNat o52).f6.f1.length : Int)]]))) (fun W_ hO_ hN_ => reps_lit ⟨(K_int _), trivial⟩)
 obtain ⟨A354, c355, rfl⟩ := row_slice (HS.mu 0 rfl)
 have le356 := row_le (HS.mu 0 rfl)
 replace HS := HS.freezeO 0 (p := (fun W => kI.C W A354 1 ([((x0.f5.getD i43.toNat o52).f6.f1.length : Int)]))) rfl (fun W_ hm_ h_ => row_C (by simp) hm_ h_.1)
 dsimp only [List.eraseIdx] at HS
 replace HS := HS.front 2 rfl
 dsimp only [List.eraseIdx] at HS
 replace HS := HS.front 2 rfl
 dsimp only [List.eraseIdx] at HS
 replace HS := HS.deriveO (p := (cF kI A354 ([((x0.f5.getD i43.toNat o52).f6.f1.length : Int)]))) (fun W_ hO_ hN_ => hO_.1)
 replace HS := HS.deriveN (p := (rF kU xs44 I46)) (fun _ _ => HS.getO 6 rfl)
 obtain ⟨t357, ha358, H⟩ := bind_some H
 refine c_ func17 (iput.runs k334 b16 v45 I46 (⟨xs44⟩ : S49) 0 A354 c355 ([((x0.f5.getD i43.toNat o52).f6.f1.length : Int)]) t357 le356 HS ha358) ?_
 clear ha358
 exact by (
 rintro _ w359 ⟨v360, I361, rfl, HS⟩
 replace HS := HS.deriveO (p := (rF kU t357.f0 I361)) (fun W_ hO_ hN_ => hN_.1)
 refine ⟨_, rfl, ?_⟩
 refine dn_ hK338 (rg_ (b_ bin_add64 ?_))
 clear hK338
 refine mv_ ?_
 refine WL.done ?_
 exact wr_ k334 iq ⟨(wrap64 (i43 + 1)), t357.f0, v360, I361, ⟨_, H, Ho42⟩, rfl, (St.pk (St.forget HS 2 rfl) [0, 7, 8, 9] [] rfl rfl)⟩ )))))))))
def impl_FileBytes.g (k : Nat) (x0 : S33) : Option Int := ((iMT.g k x0).bind fun t5 => (some (t5.1.size : Int)))
theorem impl_FileBytes.runs (k : Nat) (cs0 : List Value) (x0 : S33) (r : Int) (w : World) (hk0 : k33.K w x0 cs0) (H : impl_FileBytes.g k x0 = some r) :
   Calls prog 9 #[.agg cs0.toArray] w fun e w' => e = .returned (vi r) ∧ Below w.heap.size w w' := by
 have el0 : cs0.length = 14 := k33.K_len hk0
 unfold impl_FileBytes.g at H
 have HS : St (fun _ => True) w w [] [(kF k33 x0 cs0)] [] := St.start (foot_cons (foot_K h33 hk0) foot_nil)
 refine cw_ (n := 12) func9 fun R_ hR_ => ?_
 refine sr_ fun _ hK1 => ?_
 refine bo_ HS (fun b2 w3 hb2 HS => ?_)
 refine ad_ hK1 ?_
 refine sr_ fun _ hK4 => ?_
 refine v_ (Run.loadS (cs := cs0) rfl rfl underlying33 rfl (by rw [el0]; kernel_rfl) (box_part (HS.mu 0 rfl) part_all)) ?_
 obtain ⟨t5, ha6, H⟩ := bind_some H
 refine cs_ HS func6 (iMT.runs k cs0 x0 t5.1 t5.2 _ (HS.getO 0 rfl) ha6) (fun w7 HS => ?_)
 clear ha6
 refine mv_ ?_
 refine v_ (Run.extract rfl rfl rfl) ?_
 refine v_ (Run.extract rfl rfl rfl) ?_
 refine as_ ?_
 refine ad_ hK4 ?_
 refine sr_ fun _ hK8 => ?_
 refine mv_ ?_
 refine v_ (Run.lenStr rfl underlying9 rfl) ?_
 refine ad_ hK8 ?_
 obtain rfl := os H
 exact rt1 Try.f9 rfl rfl hR_ ⟨rfl, HS.b⟩
def sM3.g (k : Nat) (x0 : S29) (a1 : Int) (a2 : Int) : Option Bool := ((sMO2.g k (⟨x0.f0, x0.f1, x0.f2, x0.f3, x0.f4⟩ : S29)).bind fun t5 => (if t5 = true then (if x0.f0 = a1 then (if (x0.f1.length : Int) = a2 then ((sW1.g k (⟨x0.f0, x0.f1, x0.f2, x0.f3, x0.f4⟩ : S29)).bind fun t11 => (some (decide (t11 ≤ 600000)))) else (some false)) else (some false)) else (some false)))
theorem sM3.runs (k : Nat) (x0 : S29) (A0_1 : Option Addr) (c0_1 : Nat) (A0_2 : Option Addr) (c0_2 : Nat) (a1 : Int) (a2 : Int) (r : Bool) (w : World) (hr0_1 : kS3.C w A0_1 x0.f1.length x0.f1) (hc0_1 : x0.f1.length ≤ c0_1) (hr0_2 : kS3.C w A0_2 x0.f2.length x0.f2) (hc0_2 : x0.f2.length ≤ c0_2) (H : sM3.g k x0 a1 a2 = some r) :
   Calls prog 37 #[.agg #[vi x0.f0, .slice A0_1 x0.f1.length c0_1, .slice A0_2 x0.f2.length c0_2, vi x0.f3, vi x0.f4], vi a1, vi a2] w fun e w' => e = .returned (.bool r) ∧ Below w.heap.size w w' := by
 unfold sM3.g at H
 have HS : St (fun _ => True) w w [] [(cF kS3 A0_1 x0.f1), (cF kS3 A0_2 x0.f2)] [] := St.start (foot_cons (foot_C (Kd.heap_slice _ (Kd.heap_int _)) hr0_1) (foot_cons (foot_C (Kd.heap_slice _ (Kd.heap_int _)) hr0_2) foot_nil))
 refine cw_ (n := 27) func37 fun R_ hR_ => ?_
 refine sr_ fun _ hK1 => ?_
 refine bo_ HS (fun b2 w3 hb2 HS => ?_)
 refine ad_ hK1 ?_
 refine sr_ fun _ hK4 => ?_
 refine v_ (ls_ (HS.mu 0 rfl) underlying29 part_all) ?_
 obtain ⟨t5, ha6, H⟩ := bind_some H
 refine cs_ HS func70 (sMO2.runs k (⟨x0.f0, x0.f1, x0.f2, x0.f3, x0.f4⟩ : S29) A0_1 c0_1 A0_2 c0_2 t5 _ (HS.getO 0 rfl) hc0_1 (HS.getO 1 rfl) hc0_2 ha6) (fun w7 HS => ?_)
 clear ha6
 refine mv_ ?_
 rcases eti_ H with ⟨c8, H⟩ | ⟨c8, H⟩
 · refine off_ (c' := false) (bF c8) ?_
   refine WL.know 9 (bF c8) ?_
   refine fast_ ?_
   refine via_ hK4 ?_
   obtain rfl := os H
   exact rt1 Try.f37 rfl rfl hR_ ⟨rfl, HS.b⟩
 refine on_ c8 ?_
 refine v_ (fa_ underlying29) ?_
 refine on_ c8 ?_
 refine v_ (lb_ (HS.mu 0 rfl) underlying3 rfl) ?_
 refine on_ c8 ?_
 refine mv_ ?_
 refine on_ c8 ?_
 refine b_ bin_eql ?_
 refine v_ (Run.pickT rfl rfl c8 rfl) ?_
 refine mv_ ?_
 rcases eti_ H with ⟨c9, H⟩ | ⟨c9, H⟩
 · refine off_ (c' := false) (eF c9) ?_
   refine WL.know 15 (eF c9) ?_
   refine fast_ ?_
   refine via_ hK4 ?_
   obtain rfl := os H
   exact rt1 Try.f37 rfl rfl hR_ ⟨rfl, HS.b⟩
 refine on_ (eT c9) (v_ (fa_ underlying29) ?_)
 refine on_ (eT c9) (v_ (lb_ (HS.mu 0 rfl) underlying25 rfl) ?_)
 refine on_ (eT c9) (ln_ underlying25 ?_)
 refine on_ (eT c9) (mv_ ?_)
 refine on_ (eT c9) (b_ bin_eql ?_)
 refine v_ (Run.pickT rfl rfl (eT c9) rfl) ?_
 refine mv_ ?_
 rcases eti_ H with ⟨c10, H⟩ | ⟨c10, H⟩
 · refine off_ (c' := false) (eF c10) ?_
   refine WL.know 22 (eF c10) ?_
   refine fast_ ?_
   refine via_ hK4 ?_
   obtain rfl := os H
   exact rt1 Try.f37 rfl rfl hR_ ⟨rfl, HS.b⟩
 refine on_ (eT c10) (v_ (ls_ (HS.mu 0 rfl) underlying29 part_all) ?_)
 refine on_ (eT c10) ?_
 obtain ⟨t11, ha12, H⟩ := bind_some H
 refine cs_ HS func71 (sW1.runs k (⟨x0.f0, x0.f1, x0.f2, x0.f3, x0.f4⟩ : S29) A0_1 c0_1 A0_2 c0_2 t11 _ (HS.getO 0 rfl) hc0_1 (HS.getO 1 rfl) hc0_2 ha12) (fun w13 HS => ?_)
 clear ha12
 refine on_ (eT c10) (b_ bin_leq ?_)
 refine v_ (Run.pickT rfl rfl (eT c10) rfl) ?_
 refine ad_ hK4 ?_
 obtain rfl := os H
 exact rt1 Try.f37 rfl rfl hR_ ⟨rfl, HS.b⟩
def spec_LayerOk.g (k : Nat) (x0 : S52) (a1 : Int) : Option Bool := ((spec_l05Width.f a1).bind fun t10 => (if t10 = true then ((spec_l05Width.f (x0.f6.f1.length : Int)).bind fun t14 => (if t14 = true then ((spec_GainOk.g k x0.f0 a1).bind fun t22 => (if t22 = true then ((spec_GainOk.g k x0.f5 a1).bind fun t30 => (if t30 = true then ((sM3.g k x0.f1 a1 a1).bind fun t42 => (if t42 = true then ((sM3.g k x0.f2 a1 a1).bind fun t54 => (if t54 = true then ((sM3.g k x0.f3 a1 a1).bind fun t66 => (if t66 = true then ((sM3.g k x0.f4 a1 a1).bind fun t78 => (if t78 = true then ((sM3.g k x0.f6 a1 (x0.f6.f1.length : Int)).bind fun t86 => (if t86 = true then ((sM3.g k x0.f7 (x0.f6.f1.length : Int) a1).bind fun t98 => (some t98)) else (some false))) else (some false))) else (some false))) else (some false))) else (some false))) else (some false))) else (some false))) else (some false))) else (some false)))
theorem spec_LayerOk.runs (k : Nat) (cs0 : List Value) (x0 : S52) (a1 : Int) (r : Bool) (w : World) (hk0 : k52.K w x0 cs0) (H : spec_LayerOk.g k x0 a1 = some r) :
   Calls prog 35 #[.agg cs0.toArray, vi a1] w fun e w' => e = .returned (.bool r) ∧ Below w.heap.size w w' := by
 have el0 : cs0.length = 32 := k52.K_len hk0
 unfold spec_LayerOk.g at H
 have HS : St (fun _ => True) w w [] [(kF k52 x0 cs0)] [] := St.start (foot_cons (foot_K h52 hk0) foot_nil)
 refine cw_ (n := 70) func35 fun R_ hR_ => ?_
 refine sr_ fun _ hK1 => ?_
 refine bo_ HS (fun b2 w3 hb2 HS => ?_)
 refine ad_ hK1 ?_
 refine sr_ fun _ hK4 => ?_
 refine v_ (fa_ underlying52) ?_
 refine v_ (fa_ underlying29) ?_
 obtain ⟨A5, c6, hc7, le8, HS⟩ := HS.sO 0 rfl at52_23
 refine v_ (lb_ (HS.mu 0 rfl) underlying25 hc7) ?_
 refine ln_ underlying25 ?_
 refine ad_ hK4 ?_
 refine sr_ fun _ hK9 => ?_
 refine mv_ ?_
 obtain ⟨t10, ha11, H⟩ := bind_some H
 refine cs0_ HS func31 (spec_l05Width.calls a1 t10 _ ha11) (fun w12 HS => ?_)
 clear ha11
 refine mv_ ?_
 rcases eti_ H with ⟨c13, H⟩ | ⟨c13, H⟩
 · refine off_ (c' := false) (bF c13) ?_
   refine WL.know 12 (bF c13) ?_
   refine fast_ ?_
   refine via_ hK9 ?_
   obtain rfl := os H
   exact rt1 Try.f35 rfl rfl hR_ ⟨rfl, HS.b⟩
 refine on_ c13 ?_
 refine mv_ ?_
 refine on_ c13 ?_
 obtain ⟨t14, ha15, H⟩ := bind_some H
 refine cs0_ HS func31 (spec_l05Width.calls (x0.f6.f1.length : Int) t14 _ ha15) (fun w16 HS => ?_)
 clear ha15
 refine v_ (Run.pickT rfl rfl c13 rfl) ?_
 refine mv_ ?_
 rcases eti_ H with ⟨c17, H⟩ | ⟨c17, H⟩
 · refine off_ (c' := false) (bF c17) ?_
   refine WL.know 16 (bF c17) ?_
   refine fast_ ?_
   refine via_ hK9 ?_
   obtain rfl := os H
   exact rt1 Try.f35 rfl rfl hR_ ⟨rfl, HS.b⟩
 refine on_ c17 ?_
 refine v_ (fa_ underlying52) ?_
 refine on_ c17 ?_
 obtain ⟨A18, c19, hc20, le21, HS⟩ := HS.sO 1 rfl at52_0
 refine v_ (lb_ (HS.mu 0 rfl) underlying27 hc20) ?_
 refine on_ c17 ?_
 refine mv_ ?_
 refine on_ c17 ?_
 obtain ⟨t22, ha23, H⟩ := bind_some H
 refine cs_ HS func36 (spec_GainOk.runs k A18 c19 x0.f0 a1 t22 _ (HS.getO 0 rfl) le21 ha23) (fun w24 HS => ?_)
 clear ha23
 refine v_ (Run.pickT rfl rfl c17 rfl) ?_
 refine mv_ ?_
 rcases eti_ H with ⟨c25, H⟩ | ⟨c25, H⟩
 · refine off_ (c' := false) (bF c25) ?_
   refine WL.know 22 (bF c25) ?_
   refine fast_ ?_
   refine via_ hK9 ?_
   obtain rfl := os H
   exact rt1 Try.f35 rfl rfl hR_ ⟨rfl, HS.b⟩
 refine on_ c25 ?_
 refine v_ (fa_ underlying52) ?_
 refine on_ c25 ?_
 obtain ⟨A26, c27, hc28, le29, HS⟩ := HS.sO 2 rfl at52_21
 refine v_ (lb_ (HS.mu 0 rfl) underlying27 hc28) ?_
 refine on_ c25 ?_
 refine mv_ ?_
 refine on_ c25 ?_
 obtain ⟨t30, ha31, H⟩ := bind_some H
 refine cs_ HS func36 (spec_GainOk.runs k A26 c27 x0.f5 a1 t30 _ (HS.getO 0 rfl) le29 ha31) (fun w32 HS => ?_)
 clear ha31
 refine v_ (Run.pickT rfl rfl c25 rfl) ?_
 refine mv_ ?_
 rcases eti_ H with ⟨c33, H⟩ | ⟨c33, H⟩
 · refine off_ (c' := false) (bF c33) ?_
   refine WL.know 28 (bF c33) ?_
   refine fast_ ?_
   refine via_ hK9 ?_
   obtain rfl := os H
   exact rt1 Try.f35 rfl rfl hR_ ⟨rfl, HS.b⟩
 refine on_ c33 ?_
 refine v_ (fa_ underlying52) ?_
 refine on_ c33 ?_
 obtain ⟨A34, c35, hc36, le37, HS⟩ := HS.sO 3 rfl at52_2
 obtain ⟨A38, c39, hc40, le41, HS⟩ := HS.sO 4 rfl at52_3
 refine v_ (ls_ (HS.mu 0 rfl) underlying29 (part_cons (at52_1 (HS.aO 5 rfl)).int (part_cons hc36 (part_cons hc40 (part_cons (at52_4 (HS.aO 5 rfl)).int (part_cons (at52_5 (HS.aO 5 rfl)).int part_nil)))))) ?_
 refine on_ c33 ?_
 refine mv_ ?_
 refine on_ c33 ?_
 refine mv_ ?_
 refine on_ c33 ?_
 obtain ⟨t42, ha43, H⟩ := bind_some H
 refine cs_ HS func37 (sM3.runs k x0.f1 A34 c35 A38 c39 a1 a1 t42 _ (HS.getO 1 rfl) le37 (HS.getO 0 rfl) le41 ha43) (fun w44 HS => ?_)
 clear ha43
 refine v_ (Run.pickT rfl rfl c33 rfl) ?_
 refine mv_ ?_
 rcases eti_ H with ⟨c45, H⟩ | ⟨c45, H⟩
 · refine off_ (c' := false) (bF c45) ?_
   refine WL.know 35 (bF c45) ?_
   refine fast_ ?_
   refine via_ hK9 ?_
   obtain rfl := os H
   exact rt1 Try.f35 rfl rfl hR_ ⟨rfl, HS.b⟩
 refine on_ c45 ?_
 refine v_ (fa_ underlying52) ?_
 refine on_ c45 ?_
 obtain ⟨A46, c47, hc48, le49, HS⟩ := HS.sO 5 rfl at52_7
 obtain ⟨A50, c51, hc52, le53, HS⟩ := HS.sO 6 rfl at52_8
 refine v_ (ls_ (HS.mu 0 rfl) underlying29 (part_cons (at52_6 (HS.aO 7 rfl)).int (part_cons hc48 (part_cons hc52 (part_cons (at52_9 (HS.aO 7 rfl)).int (part_cons (at52_10 (HS.aO 7 rfl)).int part_nil)))))) ?_
 refine on_ c45 ?_
 refine mv_ ?_
 refine on_ c45 ?_
 refine mv_ ?_
 refine on_ c45 ?_
 obtain ⟨t54, ha55, H⟩ := bind_some H
 refine cs_ HS func37 (sM3.runs k x0.f2 A46 c47 A50 c51 a1 a1 t54 _ (HS.getO 1 rfl) le49 (HS.getO 0 rfl) le53 ha55) (fun w56 HS => ?_)
 clear ha55
 refine v_ (Run.pickT rfl rfl c45 rfl) ?_
 refine mv_ ?_
 rcases eti_ H with ⟨c57, H⟩ | ⟨c57, H⟩
 · refine off_ (c' := false) (bF c57) ?_
   refine WL.know 42 (bF c57) ?_
   refine fast_ ?_
   refine via_ hK9 ?_
   obtain rfl := os H
   exact rt1 Try.f35 rfl rfl hR_ ⟨rfl, HS.b⟩
 refine on_ c57 ?_
 refine v_ (fa_ underlying52) ?_
 refine on_ c57 ?_
 obtain ⟨A58, c59, hc60, le61, HS⟩ := HS.sO 7 rfl at52_12
 obtain ⟨A62, c63, hc64, le65, HS⟩ := HS.sO 8 rfl at52_13
 refine v_ (ls_ (HS.mu 0 rfl) underlying29 (part_cons (at52_11 (HS.aO 9 rfl)).int (part_cons hc60 (part_cons hc64 (part_cons (at52_14 (HS.aO 9 rfl)).int (part_cons (at52_15 (HS.aO 9 rfl)).int part_nil)))))) ?_
 refine on_ c57 ?_
 refine mv_ ?_
 refine on_ c57 ?_
 refine mv_ ?_
 refine on_ c57 ?_
 obtain ⟨t66, ha67, H⟩ := bind_some H
 refine cs_ HS func37 (sM3.runs k x0.f3 A58 c59 A62 c63 a1 a1 t66 _ (HS.getO 1 rfl) le61 (HS.getO 0 rfl) le65 ha67) (fun w68 HS => ?_)
 clear ha67
 refine v_ (Run.pickT rfl rfl c57 rfl) ?_
 refine mv_ ?_
 rcases eti_ H with ⟨c69, H⟩ | ⟨c69, H⟩
 · refine off_ (c' := false) (bF c69) ?_
   refine WL.know 49 (bF c69) ?_
   refine fast_ ?_
   refine via_ hK9 ?_
   obtain rfl := os H
   exact rt1 Try.f35 rfl rfl hR_ ⟨rfl, HS.b⟩
 refine on_ c69 ?_
 refine v_ (fa_ underlying52) ?_
 refine on_ c69 ?_
 obtain ⟨A70, c71, hc72, le73, HS⟩ := HS.sO 9 rfl at52_17
 obtain ⟨A74, c75, hc76, le77, HS⟩ := HS.sO 10 rfl at52_18
 refine v_ (ls_ (HS.mu 0 rfl) underlying29 (part_cons (at52_16 (HS.aO 11 rfl)).int (part_cons hc72 (part_cons hc76 (part_cons (at52_19 (HS.aO 11 rfl)).int (part_cons (at52_20 (HS.aO 11 rfl)).int part_nil)))))) ?_
 refine on_ c69 ?_
 refine mv_ ?_
 refine on_ c69 ?_
 refine mv_ ?_
 refine on_ c69 ?_
 obtain ⟨t78, ha79, H⟩ := bind_some H
 refine cs_ HS func37 (sM3.runs k x0.f4 A70 c71 A74 c75 a1 a1 t78 _ (HS.getO 1 rfl) le73 (HS.getO 0 rfl) le77 ha79) (fun w80 HS => ?_)
 clear ha79
 refine v_ (Run.pickT rfl rfl c69 rfl) ?_
 refine mv_ ?_
 rcases eti_ H with ⟨c81, H⟩ | ⟨c81, H⟩
 · refine off_ (c' := false) (bF c81) ?_
   refine WL.know 56 (bF c81) ?_
   refine fast_ ?_
   refine via_ hK9 ?_
   obtain rfl := os H
   exact rt1 Try.f35 rfl rfl hR_ ⟨rfl, HS.b⟩
 refine on_ c81 ?_
 refine v_ (fa_ underlying52) ?_
 refine on_ c81 ?_
 obtain ⟨A82, c83, hc84, le85, HS⟩ := HS.sO 11 rfl at52_24
 refine v_ (ls_ (HS.mu 0 rfl) underlying29 (part_cons (at52_22 (HS.aO 12 rfl)).int (part_cons hc7 (part_cons hc84 (part_cons (at52_25 (HS.aO 12 rfl)).int (part_cons (at52_26 (HS.aO 12 rfl)).int part_nil)))))) ?_
 refine on_ c81 ?_
 refine mv_ ?_
 refine on_ c81 ?_
 refine mv_ ?_
 refine on_ c81 ?_
 obtain ⟨t86, ha87, H⟩ := bind_some H
 refine cs_ HS func37 (sM3.runs k x0.f6 A5 c6 A82 c83 a1 (x0.f6.f1.length : Int) t86 _ (HS.getO 11 rfl) le8 (HS.getO 0 rfl) le85 ha87) (fun w88 HS => ?_)
 clear ha87
 refine v_ (Run.pickT rfl rfl c81 rfl) ?_
 refine mv_ ?_
 rcases eti_ H with ⟨c89, H⟩ | ⟨c89, H⟩
 · refine off_ (c' := false) (bF c89) ?_
   refine WL.know 63 (bF c89) ?_
   refine fast_ ?_
   refine via_ hK9 ?_
   obtain rfl := os H
   exact rt1 Try.f35 rfl rfl hR_ ⟨rfl, HS.b⟩
 refine on_ c89 ?_
 refine v_ (fa_ underlying52) ?_
 refine on_ c89 ?_
 obtain ⟨A90, c91, hc92, le93, HS⟩ := HS.sO 12 rfl at52_28
 obtain ⟨A94, c95, hc96, le97, HS⟩ := HS.sO 13 rfl at52_29
 refine v_ (ls_ (HS.mu 0 rfl) underlying29 (part_cons (at52_27 (HS.aO 14 rfl)).int (part_cons hc92 (part_cons hc96 (part_cons (at52_30 (HS.aO 14 rfl)).int (part_cons (at52_31 (HS.aO 14 rfl)).int part_nil)))))) ?_
 refine on_ c89 ?_
 refine mv_ ?_
 refine on_ c89 ?_
 refine mv_ ?_
 refine on_ c89 ?_
 obtain ⟨t98, ha99, H⟩ := bind_some H
 refine cs_ HS func37 (sM3.runs k x0.f7 A90 c91 A94 c95 (x0.f6.f1.length : Int) a1 t98 _ (HS.getO 1 rfl) le93 (HS.getO 0 rfl) le97 ha99) (fun w100 HS => ?_)
 clear ha99
 refine v_ (Run.pickT rfl rfl c89 rfl) ?_
 refine ad_ hK9 ?_
 obtain rfl := os H
 exact rt1 Try.f35 rfl rfl hR_ ⟨rfl, HS.b⟩
end Go.Proofs.Ytbdbadkinjbpcaa.PFnFiles
