/- Functions that the statement reaches, as Lean functions, and the proof that a call of each comes to just its answer; written by this claim's own program. No conditions. -/
import Derived.Test.YtoccifnjhbibcaaGreatGFnExactKeyValue2
namespace Go.Proofs.YtoccifnjhbibcaaGreat.PFnExactKeyValue
open Tryz
open Go.RowKit Go.Proofs.YtoccifnjhbibcaaGreatW.PrintWords Go.Proofs.YtoccifnjhbibcaaGreatW.PrintLast Go.Proofs.YtoccifnjhbibcaaGreatW.PrintMore Go.Proofs.YtoccifnjhbibcaaGreat.XW Go.Proofs.YtoccifnjhbibcaaGreat.XOp Go.Proofs.YtoccifnjhbibcaaGreat.XSt Go.Proofs.YtoccifnjhbibcaaGreat.XDraw
set_option linter.unusedVariables false
set_option linter.unusedSimpArgs false
set_option maxHeartbeats 4000000
set_option maxRecDepth 20000
def spec_Norm.b2 (l0 : List Int) (rec_ : Int → Int → Option (Int × Int)) (k109 : Nat) (i28 : Int) (i29 : Int) : Option (Int × Int) := (if i29 < (l0.length : Int) then (if 0 ≤ i29 ∧ i29 < (l0.length : Int) then (rec_ (wrap64 (i28 + (l0.getD i29.toNat 0))) (wrap64 (i29 + 1))) else none) else (some (i28, i29)))
def spec_Norm.l2 (l0 : List Int) : Nat → Int → Int → Option (Int × Int)
 | 0, _, _ => none
 | k + 1, i28, i29 => spec_Norm.b2 l0 (spec_Norm.l2 l0 k) k i28 i29
def spec_Norm.b1 (l0 : List Int) (t34 : Int) (rec_ : Int → Int → Option (Int × Int)) (k98 : Nat) (i44 : Int) (i45 : Int) : Option (Int × Int) := (if i45 < (l0.length : Int) then (if 0 ≤ i45 ∧ i45 < (l0.length : Int) then (rec_ (wrap64 (i44 + (wrap64 ((wrap64 ((l0.getD i45.toNat 0) - t34)) * (wrap64 ((l0.getD i45.toNat 0) - t34)))))) (wrap64 (i45 + 1))) else none) else (some (i44, i45)))
def spec_Norm.l1 (l0 : List Int) (t34 : Int) : Nat → Int → Int → Option (Int × Int)
 | 0, _, _ => none
 | k + 1, i44, i45 => spec_Norm.b1 l0 t34 (spec_Norm.l1 l0 t34 k) k i44 i45
def spec_Norm.b0 (l0 : List Int) (l1 : List Int) (t34 : Int) (t51 : Int) (rec_ : (List Int) → Int → Option ((List Int) × Int)) (k73 : Nat) (xs60 : List Int) (i63 : Int) : Option ((List Int) × Int) := (if i63 < (l0.length : Int) then (if 0 ≤ i63 ∧ i63 < (l0.length : Int) then (if 0 ≤ i63 ∧ i63 < (l1.length : Int) then ((spec_l03Floor.f (wrap64 ((wrap64 ((l0.getD i63.toNat 0) - t34)) * (l1.getD i63.toNat 0))) t51).bind fun t85 => ((spec_l03Clamp.f t85 127).bind fun t88 => (if (xs60.length) < 4294967296 then (rec_ (xs60 ++ [t88]) (wrap64 (i63 + 1))) else none))) else none) else none) else (some (xs60, i63)))
def spec_Norm.l0 (l0 : List Int) (l1 : List Int) (t34 : Int) (t51 : Int) : Nat → (List Int) → Int → Option ((List Int) × Int)
 | 0, _, _ => none
 | k + 1, xs60, i63 => spec_Norm.b0 l0 l1 t34 t51 (spec_Norm.l0 l0 l1 t34 t51 k) k xs60 i63
def spec_Norm.g (k : Nat) (l0 : List Int) (l1 : List Int) : Option ((List Int) × Bool) := ((spec_l01In.f (l0.length : Int) 1 8).bind fun t8 => (if t8 = true then (if (l1.length : Int) = (l0.length : Int) then ((spec_l05All.g k l0 (-1000) 1000).bind fun t13 => (if t13 = true then ((spec_l05All.g k l1 0 127).bind fun t17 => (if t17 = true then ((spec_Norm.l2 l0 k 0 0).bind (fun oc107 => ((spec_l03Floor.f oc107.1 (l0.length : Int)).bind fun t34 => ((spec_Norm.l1 l0 t34 k 0 0).bind (fun oc96 => (if (l0.length : Int) ≠ 0 then ((spec_Root.g k (wrap64 ((wrap64 (Int.tdiv oc96.1 (l0.length : Int))) + 1))).bind fun t51 => ((spec_Norm.l0 l0 l1 t34 t51 k ([] : List Int) 0).bind (fun oc71 => (some (oc71.1, true))))) else none)))))) else (some (([] : List Int), false)))) else (some (([] : List Int), false)))) else (some (([] : List Int), false))) else (some (([] : List Int), false))))
theorem spec_Norm.runs (k : Nat) (A0 : Option Addr) (c0 : Nat) (l0 : List Int) (A1 : Option Addr) (c1 : Nat) (l1 : List Int) (r1 : List Int) (r2 : Bool) (w : World) (hr0 : kI.C w A0 l0.length l0) (hc0 : l0.length ≤ c0) (hr1 : kI.C w A1 l1.length l1) (hc1 : l1.length ≤ c1) (H : spec_Norm.g k l0 l1 = some (r1, r2)) :
   Calls prog 175 #[.slice A0 l0.length c0, .slice A1 l1.length c1] w fun e w' => ∃ (A0_ : Option Addr) (c0_ : Nat), e = .returned (.tuple #[.slice A0_ r1.length c0_, .bool r2]) ∧ r1.length ≤ c0_ ∧ Foot (cF kI A0_ r1) w' (fun k_ => w.heap.size ≤ k_) ∧ Below w.heap.size w w' := by
 unfold spec_Norm.g at H
 have HS : St (fun _ => True) w w [] [(cF kI A0 l0), (cF kI A1 l1)] [] := St.start (foot_cons (foot_C (Kd.heap_int _) hr0) (foot_cons (foot_C (Kd.heap_int _) hr1) foot_nil))
 refine cw_ (n := 100) func175 fun R_ hR_ => ?_
 refine sr_ fun _ hK1 => ?_
 refine as_ ?_
 refine ad_ hK1 ?_
 clear hK1
 refine sr_ fun _ hK2 => ?_
 exact by (
 refine WL.lit0 HS rfl rfl (by decide) rfl underlying28 (sz := 1) (by kernel_rfl) (fun v3 w4 HS => ?_)
 replace HS := HS.deriveN (p := (rF kI ([] : List Int) [])) (fun _ _ => Reps.none _ _)
 refine ad_ hK2 ?_
 clear hK2
 refine sr_ fun _ hK5 => ?_
 refine mv_ ?_
 refine ln_ underlying28 ?_
 refine ad_ hK5 ?_
 exact by (
 clear hK5
 refine WC.seq fun _ hK6 => ?_
 refine sr_ fun _ hK7 => ?_
 refine mv_ ?_
 obtain ⟨t8, ha9, H⟩ := bind_some H
 refine cs0_ HS func96 (spec_l01In.calls (l0.length : Int) 1 8 t8 _ ha9) (fun w10 HS => ?_)
 clear ha9
 refine nt_ ?_
 exact by (
 refine mv_ ?_
 rcases eti_ H with ⟨c11, H⟩ | ⟨c11, H⟩
 · refine off_ (c' := true) (nB (bF c11)) ?_
   refine WL.know 21 (nB (bF c11)) ?_
   refine fast_ ?_
   refine via_ hK7 (wy_ rfl ?_)
   clear hK7
   refine sr_ fun _ hK129 => ?_
   exact by (
   refine fast_ ?_
   refine via_ hK129 (WC.ret ?_)
   clear hK129
   obtain ⟨A130, c131, rfl⟩ := row_slice (HS.mu 0 rfl)
   have le132 := row_le (HS.mu 0 rfl)
   replace HS := HS.freezeN 0 (p := (fun W => kI.C W A130 0 (([] : List Int)))) rfl (fun W_ hm_ h_ => row_C (by simp) hm_ h_.1)
   dsimp only [List.eraseIdx] at HS
   obtain ⟨rfl, rfl⟩ := Prod.mk.inj (os H)
   exact fin2 Tryz.f175 rfl rfl rfl hR_ ⟨_, _, rfl, le132, (foot_fresh (HS.footN 0 rfl)), HS.b⟩ )
 exact by (
 refine on_ (nB c11) (mv_ ?_)
 refine on_ (nB c11) (ln_ underlying28 ?_)
 refine on_ (nB c11) (mv_ ?_)
 refine on_ (nB c11) (b_ bin_neq ?_)
 refine v_ (Run.pickF rfl rfl (nB c11) rfl) ?_
 refine mv_ ?_
 rcases eti_ H with ⟨c12, H⟩ | ⟨c12, H⟩
 · refine off_ (c' := true) (qT c12) ?_
   exact by (
   refine WL.know 27 (qT c12) ?_
   refine fast_ ?_
   refine via_ hK7 (wy_ rfl ?_)
   clear hK7
   refine sr_ fun _ hK125 => ?_
   refine fast_ ?_
   refine via_ hK125 (WC.ret ?_)
   clear hK125
   exact by (
   obtain ⟨A126, c127, rfl⟩ := row_slice (HS.mu 0 rfl)
   have le128 := row_le (HS.mu 0 rfl)
   replace HS := HS.freezeN 0 (p := (fun W => kI.C W A126 0 (([] : List Int)))) rfl (fun W_ hm_ h_ => row_C (by simp) hm_ h_.1)
   dsimp only [List.eraseIdx] at HS
   obtain ⟨rfl, rfl⟩ := Prod.mk.inj (os H)
   exact fin2 Tryz.f175 rfl rfl rfl hR_ ⟨_, _, rfl, le128, (foot_fresh (HS.footN 0 rfl)), HS.b⟩ ))
 refine on_ (qF c12) (mv_ ?_)
 refine on_ (qF c12) ?_
 exact by (
 obtain ⟨t13, ha14, H⟩ := bind_some H
 refine cs_ HS func170 (spec_l05All.runs k A0 c0 l0 (-1000) 1000 t13 _ (HS.getO 0 rfl) hc0 ha14) (fun w15 HS => ?_)
 clear ha14
 refine on_ (qF c12) (nt_ ?_)
 refine v_ (Run.pickF rfl rfl (qF c12) rfl) ?_
 refine mv_ ?_
 rcases eti_ H with ⟨c16, H⟩ | ⟨c16, H⟩
 · refine off_ (c' := true) (nB (bF c16)) ?_
   exact by (
   refine WL.know 32 (nB (bF c16)) ?_
   refine fast_ ?_
   refine via_ hK7 (wy_ rfl ?_)
   clear hK7
   refine sr_ fun _ hK121 => ?_
   refine fast_ ?_
   refine via_ hK121 (WC.ret ?_)
   clear hK121
   exact by (
   obtain ⟨A122, c123, rfl⟩ := row_slice (HS.mu 0 rfl)
   have le124 := row_le (HS.mu 0 rfl)
   replace HS := HS.freezeN 0 (p := (fun W => kI.C W A122 0 (([] : List Int)))) rfl (fun W_ hm_ h_ => row_C (by simp) hm_ h_.1)
   dsimp only [List.eraseIdx] at HS
   obtain ⟨rfl, rfl⟩ := Prod.mk.inj (os H)
   exact fin2 Tryz.f175 rfl rfl rfl hR_ ⟨_, _, rfl, le124, (foot_fresh (HS.footN 0 rfl)), HS.b⟩ ))
 refine on_ (nB c16) (mv_ ?_)
 refine on_ (nB c16) ?_
 exact by (
 obtain ⟨t17, ha18, H⟩ := bind_some H
 refine cs_ HS func170 (spec_l05All.runs k A1 c1 l1 0 127 t17 _ (HS.getO 1 rfl) hc1 ha18) (fun w19 HS => ?_)
 clear ha18
 refine on_ (nB c16) (nt_ ?_)
 refine v_ (Run.pickF rfl rfl (nB c16) rfl) ?_
 refine dn_ hK7 ?_
 clear hK7
 rcases eti_ H with ⟨c20, H⟩ | ⟨c20, H⟩
 · refine wy_ (nB (bF c20)) (sr_ fun _ hK117 => ?_)
   exact by (
   refine fast_ ?_
   refine via_ hK117 (WC.ret ?_)
   clear hK117
   obtain ⟨A118, c119, rfl⟩ := row_slice (HS.mu 0 rfl)
   have le120 := row_le (HS.mu 0 rfl)
   replace HS := HS.freezeN 0 (p := (fun W => kI.C W A118 0 (([] : List Int)))) rfl (fun W_ hm_ h_ => row_C (by simp) hm_ h_.1)
   dsimp only [List.eraseIdx] at HS
   obtain ⟨rfl, rfl⟩ := Prod.mk.inj (os H)
   exact fin2 Tryz.f175 rfl rfl rfl hR_ ⟨_, _, rfl, le120, (foot_fresh (HS.footN 0 rfl)), HS.b⟩ )
 exact by (
 refine wn_ (nB c20) (WC.skip (via_ hK6 (sr_ fun _ hK21 => ?_)))
 clear hK6
 refine ad_ hK21 ?_
 clear hK21
 refine WC.seq fun K22 hK22 => ?_
 refine sr_ fun _ hK23 => ?_
 refine ad_ hK23 ?_
 clear hK23
 exact by (
 refine WC.block ?_
 obtain ⟨G24, hG25, oc26, H, Ho27⟩ := open_G H
 let J30 := fun (i28 : Int) (i29 : Int) (E_ : Env) (W_ : World) => E_ = [(0, .slice A0 l0.length c0), (1, .slice A1 l1.length c1), (6, v3), (7, vi (l0.length : Int)), (8, vi i28), (9, vi i29)] ∧ St (fun _ => True) w W_ [rowM w.heap.size 3 1 v3 0 ([])] [(cF kI A0 l0), (cF kI A1 l1)] [(rF kI ([] : List Int) [])]
 have X31 : ∀ E_ W_, (∃ i28 i29, G24 (i28, i29) = some (r1, r2) ∧ J30 i28 i29 E_ W_) → ∀ a, Fits a 100 E_ → K22 a W_ := by
   rintro E_ w32 ⟨i28, i29, H, rfl, HS⟩
   rw [hG25] at H
   (try dsimp only at H)
   refine hK22 _ _ ?_
   exact by (
   clear hK22
   refine sr_ fun _ hK33 => ?_
   refine mv_ ?_
   refine mv_ ?_
   obtain ⟨t34, ha35, H⟩ := bind_some H
   refine cs0_ HS func234 (spec_l03Floor.calls i28 (l0.length : Int) t34 _ ha35) (fun w36 HS => ?_)
   clear ha35
   refine ad_ hK33 ?_
   exact by (
   clear hK33
   refine sr_ fun _ hK37 => ?_
   refine ad_ hK37 ?_
   clear hK37
   refine WC.seq fun K38 hK38 => ?_
   refine sr_ fun _ hK39 => ?_
   refine ad_ hK39 ?_
   clear hK39
   exact by (
   refine WC.block ?_
   obtain ⟨G40, hG41, oc42, H, Ho43⟩ := open_G H
   let J46 := fun (i44 : Int) (i45 : Int) (E_ : Env) (W_ : World) => E_ = [(0, .slice A0 l0.length c0), (1, .slice A1 l1.length c1), (6, v3), (7, vi (l0.length : Int)), (10, vi t34), (11, vi i44), (12, vi i45)] ∧ St (fun _ => True) w W_ [rowM w.heap.size 3 1 v3 0 ([])] [(cF kI A0 l0), (cF kI A1 l1)] [(rF kI ([] : List Int) [])]
   have X47 : ∀ E_ W_, (∃ i44 i45, G40 (i44, i45) = some (r1, r2) ∧ J46 i44 i45 E_ W_) → ∀ a, Fits a 100 E_ → K38 a W_ := by
     rintro E_ w48 ⟨i44, i45, H, rfl, HS⟩
     rw [hG41] at H
     (try dsimp only at H)
     refine hK38 _ _ ?_
     exact by (
     clear hK38
     refine sr_ fun _ hK49 => ?_
     refine mv_ ?_
     refine mv_ ?_
     obtain ⟨z50, H⟩ := if_some H
     refine b_ (bin_quo64 z50) ?_
     refine b_ bin_add64 ?_
     obtain ⟨t51, ha52, H⟩ := bind_some H
     exact by (
     refine cs_ HS func235 (spec_Root.runs k (wrap64 ((wrap64 (Int.tdiv i44 (l0.length : Int))) + 1)) t51 _  ha52) (fun w53 HS => ?_)
     clear ha52
     refine ad_ hK49 ?_
     clear hK49
     refine WC.seq fun K54 hK54 => ?_
     refine sr_ fun _ hK55 => ?_
     refine ad_ hK55 ?_
     clear hK55
     exact by (
     refine WC.block ?_
     obtain ⟨G56, hG57, oc58, H, Ho59⟩ := open_G H
     let J64 := fun (xs60 : List Int) v61 I62 (i63 : Int) (E_ : Env) (W_ : World) => E_ = [(0, .slice A0 l0.length c0), (1, .slice A1 l1.length c1), (6, v61), (7, vi (l0.length : Int)), (10, vi t34), (13, vi t51), (14, vi i63)] ∧ St (fun _ => True) w W_ [rowM w.heap.size 3 1 v61 xs60.length I62] [(cF kI A0 l0), (cF kI A1 l1)] [(rF kI xs60 I62)]
     have X65 : ∀ E_ W_, (∃ xs60 v61 I62 i63, G56 (xs60, i63) = some (r1, r2) ∧ J64 xs60 v61 I62 i63 E_ W_) → ∀ a, Fits a 100 E_ → K54 a W_ := by
       rintro E_ w66 ⟨xs60, v61, I62, i63, H, rfl, HS⟩
       rw [hG57] at H
       (try dsimp only at H)
       refine hK54 _ _ ?_
       exact by (
       clear hK54
       refine sr_ fun _ hK67 => ?_
       refine fast_ ?_
       refine via_ hK67 (WC.ret ?_)
       clear hK67
       obtain ⟨A68, c69, rfl⟩ := row_slice (HS.mu 0 rfl)
       have le70 := row_le (HS.mu 0 rfl)
       replace HS := HS.freezeN 0 (p := (cF kI A68 (xs60))) rfl (fun W_ hm_ h_ => row_C (by rfl) hm_ h_.1)
       exact by (
       dsimp only [List.eraseIdx] at HS
       obtain ⟨rfl, rfl⟩ := Prod.mk.inj (os H)
       exact fin2 Tryz.f175 rfl rfl rfl hR_ ⟨_, _, rfl, le70, (foot_fresh (HS.footN 0 rfl)), HS.b⟩ ))
     clear hK54
     refine WC.loop (fun k_ E_ W_ => ∃ xs60 v61 I62 i63, (∃ o_, spec_Norm.l0 l0 l1 t34 t51 k_ xs60 i63 = some o_ ∧ G56 o_ = some (r1, r2)) ∧ J64 xs60 v61 I62 i63 E_ W_) k ⟨([] : List Int), v3, ([]), 0, ⟨_, H, Ho59⟩, rfl, HS⟩ (sb rfl) ?_
     rintro k_ E_ w72 ⟨xs60, v61, I62, i63, ⟨oc58, H, Ho59⟩, rfl, HS⟩
     rcases k_ with _ | k73
     · exact no_ H
     exact by (
     replace H : spec_Norm.b0 l0 l1 t34 t51 (spec_Norm.l0 l0 l1 t34 t51 k73) k73 xs60 i63 = some oc58 := H
     unfold spec_Norm.b0 at H
     refine WC.seq fun _ hK74 => ?_
     refine sr_ fun _ hK75 => ?_
     refine mv_ ?_
     refine mv_ ?_
     refine b_ bin_lss ?_
     refine dn_ hK75 ?_
     exact by (
     clear hK75
     rcases eti_ H with ⟨c76, H⟩ | ⟨c76, H⟩
     · refine wn_ (dF c76) (WC.exit ?_)
       obtain rfl := os H
       exact wv_ iq X65 ⟨xs60, v61, I62, i63, Ho59, rfl, HS⟩
     refine wy_ (dT c76) (WC.skip (via_ hK74 (WC.seq fun _ hK77 => ?_)))
     clear hK74
     refine WC.block (WC.drawW HS [] (fun _ HS => trivial) [] rfl rfl (fun w78 HS => ?_))
     exact by (
     refine dm_ 0 ?_
     refine dm_ 1 ?_
     refine dm_ 2 ?_
     obtain ⟨⟨q79, q80⟩, H⟩ := if_some H
     obtain ⟨ad81, rfl⟩ := C_open (HS.getO 0 rfl) (lenpos q79 q80)
     refine di_ 3 underlying28 1 q79 q80 ?_
     refine dm_ 5 ?_
     refine dm_ 7 ?_
     exact by (
     refine dm_ 8 ?_
     obtain ⟨⟨q82, q83⟩, H⟩ := if_some H
     obtain ⟨ad84, rfl⟩ := C_open (HS.getO 1 rfl) (lenpos q82 q83)
     refine di_ 9 underlying28 1 q82 q83 ?_
     refine dm_ 12 ?_
     refine dt_ 4 ⟨HS.nowO, HS.nowN, trivial⟩ (fun w_ hw_ => Run.load rfl rfl underlying3 rfl (int_cell (AllF.get 0 rfl hw_.1) i63 q79 q80)) ?_
     refine dp_ 6 (fun _ => Run.bin rfl rfl rfl bin_sub64) ?_
     refine dt_ 10 ⟨HS.nowO, HS.nowN, trivial⟩ (fun w_ hw_ => Run.load rfl rfl underlying3 rfl (int_cell (AllF.get 1 rfl hw_.1) i63 q82 q83)) ?_
     exact by (
     refine dp_ 11 (fun _ => Run.bin rfl rfl rfl bin_mul64) ?_
     obtain ⟨t85, ha86, H⟩ := bind_some H
     refine dc_ 13 (w_none rfl) func234 (spec_l03Floor.calls (wrap64 ((wrap64 ((l0.getD i63.toNat 0) - t34)) * (l1.getD i63.toNat 0))) t51 t85 _ ha86) ?_
     clear ha86
     rintro _ w87 ⟨rfl, hb⟩
     have hb := hb.below
     replace HS := HS.below hb
     refine ⟨⟨HS.nowO, HS.nowN, trivial⟩, _, rfl, ?_⟩
     exact by (
     clear hb
     obtain ⟨t88, ha89, H⟩ := bind_some H
     refine dc_ 14 (w_none rfl) func201 (spec_l03Clamp.calls t85 127 t88 _ ha89) ?_
     clear ha89
     rintro _ w90 ⟨rfl, hb⟩
     have hb := hb.below
     replace HS := HS.below hb
     refine ⟨⟨HS.nowO, HS.nowN, trivial⟩, _, rfl, ?_⟩
     exact by (
     clear hb
     have HS1 := HS.below (below_alloc (Below.refl _ _) (.cells #[vi t88] 3))
     refine dv_ 15 (w_none rfl) (Run.lit1 (z := (vi 0)) (vs := [vi t88]) rfl rfl rfl underlying28 (by kernel_rfl) (ble_ rfl) (ble_ rfl)) ⟨HS1.nowO, HS1.nowN, trivial⟩ ?_
     obtain ⟨q91, H⟩ := if_some H
     refine WD.append 16 (w_none rfl) HS1 0 rfl rfl (vi 0) 8 underlying28 (by kernel_rfl) rfl (by decide) (by decide) rfl rfl [vi t88] rfl (lit_news _ _ _) (oneL rfl) (by omega) ((xs60 ++ [t88]).length) (by simp) (fun v92 w93 I94 hI95 HS => ?_)
     dsimp only [List.set] at HS
     replace HS := HS.deriveN (p := (rF kI (xs60 ++ [t88]) I94)) (fun W_ hN_ => reps_snoc hI95 hN_.1 (K_int _))
     clear HS1
     exact by (
     refine ⟨⟨HS.nowO, HS.nowN.2, trivial⟩, ?_⟩
     refine dp_ 17 (fun _ => Run.assign rfl rfl) ?_
     refine dd_ (via_ hK77 (rg_ (mv_ ?_)))
     clear hK77
     refine b_ bin_add64 ?_
     refine as_ ?_
     refine WL.done ?_
     exact wr_ k73 iq ⟨(xs60 ++ [t88]), v92, I94, (wrap64 (i63 + 1)), ⟨_, H, Ho59⟩, rfl, (St.pk HS [0, 1] [0] rfl rfl)⟩ )))))))))))
   exact by (
   clear hK38
   refine WC.loop (fun k_ E_ W_ => ∃ i44 i45, (∃ o_, spec_Norm.l1 l0 t34 k_ i44 i45 = some o_ ∧ G40 o_ = some (r1, r2)) ∧ J46 i44 i45 E_ W_) k ⟨0, 0, ⟨_, H, Ho43⟩, rfl, HS⟩ (sb rfl) ?_
   rintro k_ E_ w97 ⟨i44, i45, ⟨oc42, H, Ho43⟩, rfl, HS⟩
   rcases k_ with _ | k98
   · exact no_ H
   replace H : spec_Norm.b1 l0 t34 (spec_Norm.l1 l0 t34 k98) k98 i44 i45 = some oc42 := H
   unfold spec_Norm.b1 at H
   refine WC.seq fun _ hK99 => ?_
   exact by (
   refine sr_ fun _ hK100 => ?_
   refine mv_ ?_
   refine mv_ ?_
   refine b_ bin_lss ?_
   refine dn_ hK100 ?_
   clear hK100
   rcases eti_ H with ⟨c101, H⟩ | ⟨c101, H⟩
   · refine wn_ (dF c101) (WC.exit ?_)
     obtain rfl := os H
     exact wv_ iq X47 ⟨i44, i45, Ho43, rfl, HS⟩
   exact by (
   refine wy_ (dT c101) (WC.skip (via_ hK99 (WC.seq fun _ hK102 => ?_)))
   clear hK99
   refine WC.block (WC.drawS HS [] rfl rfl (fun w103 HS => ?_))
   have HB := Below.refl w103.heap.size w103
   have HSW := HS
   refine dm_ 0 ?_
   refine dm_ 1 ?_
   refine dm_ 2 ?_
   exact by (
   obtain ⟨⟨q104, q105⟩, H⟩ := if_some H
   obtain ⟨ad106, rfl⟩ := C_open (HS.getO 0 rfl) (lenpos q104 q105)
   refine di_ 3 underlying28 1 q104 q105 ?_
   refine dm_ 5 ?_
   refine dm_ 7 ?_
   refine dm_ 8 ?_
   refine di_ 9 underlying28 1 q104 q105 ?_
   refine dm_ 11 ?_
   exact by (
   refine dt_ 4 (Below.refl _ _) (fun w_ hw_ => Run.load rfl rfl underlying3 rfl (int_cell ((HS.below hw_).getO 0 rfl) i45 q104 q105)) ?_
   refine dp_ 6 (fun _ => Run.bin rfl rfl rfl bin_sub64) ?_
   refine dt_ 10 (Below.refl _ _) (fun w_ hw_ => Run.load rfl rfl underlying3 rfl (int_cell ((HS.below hw_).getO 0 rfl) i45 q104 q105)) ?_
   refine dp_ 12 (fun _ => Run.bin rfl rfl rfl bin_sub64) ?_
   refine dp_ 13 (fun _ => Run.bin rfl rfl rfl bin_mul64) ?_
   refine dp_ 14 (fun _ => Run.bin rfl rfl rfl bin_add64) ?_
   refine dp_ 15 (fun _ => Run.assign rfl rfl) ?_
   refine dd_ ?_
   exact by (
   clear HB HSW
   refine via_ hK102 (rg_ (mv_ ?_))
   clear hK102
   refine b_ bin_add64 ?_
   refine as_ ?_
   refine WL.done ?_
   exact wr_ k98 iq ⟨(wrap64 (i44 + (wrap64 ((wrap64 ((l0.getD i45.toNat 0) - t34)) * (wrap64 ((l0.getD i45.toNat 0) - t34)))))), (wrap64 (i45 + 1)), ⟨_, H, Ho43⟩, rfl, HS⟩ )))))))))
 clear hK22
 exact by (
 refine WC.loop (fun k_ E_ W_ => ∃ i28 i29, (∃ o_, spec_Norm.l2 l0 k_ i28 i29 = some o_ ∧ G24 o_ = some (r1, r2)) ∧ J30 i28 i29 E_ W_) k ⟨0, 0, ⟨_, H, Ho27⟩, rfl, HS⟩ (sb rfl) ?_
 rintro k_ E_ w108 ⟨i28, i29, ⟨oc26, H, Ho27⟩, rfl, HS⟩
 rcases k_ with _ | k109
 · exact no_ H
 replace H : spec_Norm.b2 l0 (spec_Norm.l2 l0 k109) k109 i28 i29 = some oc26 := H
 unfold spec_Norm.b2 at H
 refine WC.seq fun _ hK110 => ?_
 refine sr_ fun _ hK111 => ?_
 exact by (
 refine mv_ ?_
 refine mv_ ?_
 refine b_ bin_lss ?_
 refine dn_ hK111 ?_
 clear hK111
 rcases eti_ H with ⟨c112, H⟩ | ⟨c112, H⟩
 · refine wn_ (dF c112) (WC.exit ?_)
   obtain rfl := os H
   exact wv_ iq X31 ⟨i28, i29, Ho27, rfl, HS⟩
 exact by (
 refine wy_ (dT c112) (WC.skip (via_ hK110 (WC.seq fun _ hK113 => ?_)))
 clear hK110
 refine WC.block (rg_ (mv_ ?_))
 refine mv_ ?_
 refine mv_ ?_
 obtain ⟨⟨q114, q115⟩, H⟩ := if_some H
 obtain ⟨ad116, rfl⟩ := C_open (HS.getO 0 rfl) (lenpos q114 q115)
 refine v_ (ia_ underlying28 1 q114 q115) ?_
 exact by (
 refine v_ (Run.load rfl rfl underlying3 rfl (int_cell (HS.getO 0 rfl) i29 q114 q115)) ?_
 refine b_ bin_add64 ?_
 refine ad_ hK113 ?_
 clear hK113
 refine rg_ (mv_ ?_)
 refine b_ bin_add64 ?_
 refine as_ ?_
 refine WL.done ?_
 exact wr_ k109 iq ⟨(wrap64 (i28 + (l0.getD i29.toNat 0))), (wrap64 (i29 + 1)), ⟨_, H, Ho27⟩, rfl, HS⟩ ))))))))))))
def spec_l05Sum.b0 (l0 : List Int) (l1 : List Int) (l2 : List Int) (rec_ : Int → Int → Option (Int × Int)) (k17 : Nat) (i9 : Int) (i10 : Int) : Option (Int × Int) := (if i10 < (l0.length : Int) then (if 0 ≤ (wrap64 (Int.tdiv i10 4)) ∧ (wrap64 (Int.tdiv i10 4)) < (l1.length : Int) then (if 0 ≤ i10 ∧ i10 < (l0.length : Int) then (if 0 ≤ i10 ∧ i10 < (l2.length : Int) then (rec_ (wrap64 (i9 + (wrap64 ((wrap64 ((l1.getD (wrap64 (Int.tdiv i10 4)).toNat 0) * (l0.getD i10.toNat 0))) * (l2.getD i10.toNat 0))))) (wrap64 (i10 + 1))) else none) else none) else none) else (some (i9, i10)))
def spec_l05Sum.l0 (l0 : List Int) (l1 : List Int) (l2 : List Int) : Nat → Int → Int → Option (Int × Int)
 | 0, _, _ => none
 | k + 1, i9, i10 => spec_l05Sum.b0 l0 l1 l2 (spec_l05Sum.l0 l0 l1 l2 k) k i9 i10
def spec_l05Sum.g (k : Nat) (l0 : List Int) (l1 : List Int) (l2 : List Int) : Option Int := ((spec_l05Sum.l0 l0 l1 l2 k 0 0).bind (fun oc15 => (some oc15.1)))
theorem spec_l05Sum.runs (k : Nat) (A0 : Option Addr) (c0 : Nat) (l0 : List Int) (A1 : Option Addr) (c1 : Nat) (l1 : List Int) (A2 : Option Addr) (c2 : Nat) (l2 : List Int) (r : Int) (w : World) (hr0 : kI.C w A0 l0.length l0) (hc0 : l0.length ≤ c0) (hr1 : kI.C w A1 l1.length l1) (hc1 : l1.length ≤ c1) (hr2 : kI.C w A2 l2.length l2) (hc2 : l2.length ≤ c2) (H : spec_l05Sum.g k l0 l1 l2 = some r) :
   Calls prog 272 #[.slice A0 l0.length c0, .slice A1 l1.length c1, .slice A2 l2.length c2] w fun e w' => e = .returned (vi r) ∧ Below w.heap.size w w' := by
 unfold spec_l05Sum.g at H
 have HS : St (fun _ => True) w w [] [(cF kI A0 l0), (cF kI A1 l1), (cF kI A2 l2)] [] := St.start (foot_cons (foot_C (Kd.heap_int _) hr0) (foot_cons (foot_C (Kd.heap_int _) hr1) (foot_cons (foot_C (Kd.heap_int _) hr2) foot_nil)))
 refine cw_ (n := 33) func272 fun R_ hR_ => ?_
 refine sr_ fun _ hK1 => ?_
 refine ad_ hK1 ?_
 refine sr_ fun _ hK2 => ?_
 refine ad_ hK2 ?_
 refine WC.seq fun K3 hK3 => ?_
 refine sr_ fun _ hK4 => ?_
 refine ad_ hK4 ?_
 refine WC.block ?_
 obtain ⟨G5, hG6, oc7, H, Ho8⟩ := open_G H
 let J11 := fun (i9 : Int) (i10 : Int) (E_ : Env) (W_ : World) => E_ = [(0, .slice A0 l0.length c0), (1, .slice A1 l1.length c1), (2, .slice A2 l2.length c2), (7, vi i9), (8, vi i10)] ∧ St (fun _ => True) w W_ [] [(cF kI A0 l0), (cF kI A1 l1), (cF kI A2 l2)] []
 have X12 : ∀ E_ W_, (∃ i9 i10, G5 (i9, i10) = some r ∧ J11 i9 i10 E_ W_) → ∀ a, Fits a 33 E_ → K3 a W_ := by
   rintro E_ w13 ⟨i9, i10, H, rfl, HS⟩
   rw [hG6] at H
   (try dsimp only at H)
   refine hK3 _ _ ?_
   refine sr_ fun _ hK14 => ?_
   refine mv_ ?_
   refine ad_ hK14 ?_
   obtain rfl := os H
   exact rt1 Tryz.f272 rfl rfl hR_ ⟨rfl, HS.b⟩
 clear hK3
 refine WC.loop (fun k_ E_ W_ => ∃ i9 i10, (∃ o_, spec_l05Sum.l0 l0 l1 l2 k_ i9 i10 = some o_ ∧ G5 o_ = some r) ∧ J11 i9 i10 E_ W_) k ⟨0, 0, ⟨_, H, Ho8⟩, rfl, HS⟩ (sb rfl) ?_
 rintro k_ E_ w16 ⟨i9, i10, ⟨oc7, H, Ho8⟩, rfl, HS⟩
 rcases k_ with _ | k17
 · exact no_ H
 replace H : spec_l05Sum.b0 l0 l1 l2 (spec_l05Sum.l0 l0 l1 l2 k17) k17 i9 i10 = some oc7 := H
 unfold spec_l05Sum.b0 at H
 refine WC.seq fun _ hK18 => ?_
 refine sr_ fun _ hK19 => ?_
 refine mv_ ?_
 refine mv_ ?_
 refine ln_ underlying28 ?_
 refine b_ bin_lss ?_
 refine dn_ hK19 ?_
 rcases eti_ H with ⟨c20, H⟩ | ⟨c20, H⟩
 · refine wn_ (dF c20) (WC.exit ?_)
   obtain rfl := os H
   exact wv_ iq X12 ⟨i9, i10, Ho8, rfl, HS⟩
 refine wy_ (dT c20) (WC.skip (via_ hK18 (WC.seq fun _ hK21 => ?_)))
 refine WC.block (WC.drawS HS [] rfl rfl (fun w22 HS => ?_))
 have HB := Below.refl w22.heap.size w22
 have HSW := HS
 refine dm_ 0 ?_
 refine dm_ 1 ?_
 refine dm_ 2 ?_
 refine dp_ 3 (fun _ => Run.bin rfl rfl rfl (bin_quo64 (show (4 : Int) ≠ 0 by decide))) ?_
 obtain ⟨⟨q23, q24⟩, H⟩ := if_some H
 obtain ⟨ad25, rfl⟩ := C_open (HS.getO 1 rfl) (lenpos q23 q24)
 refine di_ 4 underlying28 1 q23 q24 ?_
 refine dm_ 6 ?_
 refine dm_ 7 ?_
 obtain ⟨⟨q26, q27⟩, H⟩ := if_some H
 obtain ⟨ad28, rfl⟩ := C_open (HS.getO 0 rfl) (lenpos q26 q27)
 refine di_ 8 underlying28 1 q26 q27 ?_
 refine dm_ 11 ?_
 refine dm_ 12 ?_
 obtain ⟨⟨q29, q30⟩, H⟩ := if_some H
 obtain ⟨ad31, rfl⟩ := C_open (HS.getO 2 rfl) (lenpos q29 q30)
 refine di_ 13 underlying28 1 q29 q30 ?_
 refine dt_ 5 (Below.refl _ _) (fun w_ hw_ => Run.load rfl rfl underlying3 rfl (int_cell ((HS.below hw_).getO 1 rfl) (wrap64 (Int.tdiv i10 4)) q23 q24)) ?_
 refine dt_ 9 (Below.refl _ _) (fun w_ hw_ => Run.load rfl rfl underlying3 rfl (int_cell ((HS.below hw_).getO 0 rfl) i10 q26 q27)) ?_
 refine dp_ 10 (fun _ => Run.bin rfl rfl rfl bin_mul64) ?_
 refine dt_ 14 (Below.refl _ _) (fun w_ hw_ => Run.load rfl rfl underlying3 rfl (int_cell ((HS.below hw_).getO 2 rfl) i10 q29 q30)) ?_
 refine dp_ 15 (fun _ => Run.bin rfl rfl rfl bin_mul64) ?_
 refine dp_ 16 (fun _ => Run.bin rfl rfl rfl bin_add64) ?_
 refine dp_ 17 (fun _ => Run.assign rfl rfl) ?_
 refine dd_ ?_
 clear HB HSW
 refine via_ hK21 (rg_ (mv_ ?_))
 refine b_ bin_add64 ?_
 refine as_ ?_
 refine WL.done ?_
 exact wr_ k17 iq ⟨(wrap64 (i9 + (wrap64 ((wrap64 ((l1.getD (wrap64 (Int.tdiv i10 4)).toNat 0) * (l0.getD i10.toNat 0))) * (l2.getD i10.toNat 0))))), (wrap64 (i10 + 1)), ⟨_, H, Ho8⟩, rfl, HS⟩
def spec_ApplyWide.b0 (x0 : S30) (l1 : List Int) (rec_ : (List Int) → Int → Option ((List Int) × Int)) (k37 : Nat) (xs24 : List Int) (i27 : Int) : Option ((List Int) × Int) := (if i27 < (x0.f1.length : Int) then (if 0 ≤ i27 ∧ i27 < (x0.f1.length : Int) then (if 0 ≤ i27 ∧ i27 < (x0.f2.length : Int) then ((spec_l05Sum.g k37 (x0.f1.getD i27.toNat []) (x0.f2.getD i27.toNat []) l1).bind fun t55 => (if (xs24.length) < 4294967296 then (rec_ (xs24 ++ [t55]) (wrap64 (i27 + 1))) else none)) else none) else none) else (some (xs24, i27)))
def spec_ApplyWide.l0 (x0 : S30) (l1 : List Int) : Nat → (List Int) → Int → Option ((List Int) × Int)
 | 0, _, _ => none
 | k + 1, xs24, i27 => spec_ApplyWide.b0 x0 l1 (spec_ApplyWide.l0 x0 l1 k) k xs24 i27
def spec_ApplyWide.g (k : Nat) (x0 : S30) (l1 : List Int) : Option ((List Int) × Bool) := ((spec_MatrixOk.g k (⟨x0.f0, x0.f1, x0.f2, x0.f3, x0.f4⟩ : S30)).bind fun t9 => (if t9 = true then (if (l1.length : Int) = x0.f0 then ((spec_l05All.g k l1 (-127) 127).bind fun t14 => (if t14 = true then ((spec_ApplyWide.l0 x0 l1 k ([] : List Int) 0).bind (fun oc35 => (some (oc35.1, true)))) else (some (([] : List Int), false)))) else (some (([] : List Int), false))) else (some (([] : List Int), false))))
theorem spec_ApplyWide.runs (k : Nat) (x0 : S30) (A0_1 : Option Addr) (c0_1 : Nat) (A0_2 : Option Addr) (c0_2 : Nat) (A1 : Option Addr) (c1 : Nat) (l1 : List Int) (r1 : List Int) (r2 : Bool) (w : World) (hr0_1 : kS3.C w A0_1 x0.f1.length x0.f1) (hc0_1 : x0.f1.length ≤ c0_1) (hr0_2 : kS3.C w A0_2 x0.f2.length x0.f2) (hc0_2 : x0.f2.length ≤ c0_2) (hr1 : kI.C w A1 l1.length l1) (hc1 : l1.length ≤ c1) (H : spec_ApplyWide.g k x0 l1 = some (r1, r2)) :
   Calls prog 236 #[.agg #[vi x0.f0, .slice A0_1 x0.f1.length c0_1, .slice A0_2 x0.f2.length c0_2, vi x0.f3, vi x0.f4], .slice A1 l1.length c1] w fun e w' => ∃ (A0_ : Option Addr) (c0_ : Nat), e = .returned (.tuple #[.slice A0_ r1.length c0_, .bool r2]) ∧ r1.length ≤ c0_ ∧ Foot (cF kI A0_ r1) w' (fun k_ => w.heap.size ≤ k_) ∧ Below w.heap.size w w' := by
 unfold spec_ApplyWide.g at H
 have HS : St (fun _ => True) w w [] [(cF kS3 A0_1 x0.f1), (cF kS3 A0_2 x0.f2), (cF kI A1 l1)] [] := St.start (foot_cons (foot_C (Kd.heap_slice _ (Kd.heap_int _)) hr0_1) (foot_cons (foot_C (Kd.heap_slice _ (Kd.heap_int _)) hr0_2) (foot_cons (foot_C (Kd.heap_int _) hr1) foot_nil)))
 refine cw_ (n := 48) func236 fun R_ hR_ => ?_
 refine sr_ fun _ hK1 => ?_
 refine bo_ HS (fun b2 w3 hb2 HS => ?_)
 refine as_ ?_
 refine ad_ hK1 ?_
 refine sr_ fun _ hK4 => ?_
 refine WL.lit0 HS rfl rfl (by decide) rfl underlying28 (sz := 1) (by kernel_rfl) (fun v5 w6 HS => ?_)
 replace HS := HS.deriveN (p := (rF kI ([] : List Int) [])) (fun _ _ => Reps.none _ _)
 refine ad_ hK4 ?_
 refine WC.seq fun _ hK7 => ?_
 refine sr_ fun _ hK8 => ?_
 refine v_ (ls_ (HS.mu 1 rfl) underlying30 part_all) ?_
 obtain ⟨t9, ha10, H⟩ := bind_some H
 refine cs_ HS func232 (spec_MatrixOk.runs k (⟨x0.f0, x0.f1, x0.f2, x0.f3, x0.f4⟩ : S30) A0_1 c0_1 A0_2 c0_2 t9 _ (HS.getO 0 rfl) hc0_1 (HS.getO 1 rfl) hc0_2 ha10) (fun w11 HS => ?_)
 clear ha10
 refine nt_ ?_
 refine mv_ ?_
 rcases eti_ H with ⟨c12, H⟩ | ⟨c12, H⟩
 · refine off_ (c' := true) (nB (bF c12)) ?_
   refine WL.know 12 (nB (bF c12)) ?_
   refine fast_ ?_
   refine via_ hK8 (wy_ rfl ?_)
   refine sr_ fun _ hK71 => ?_
   refine fast_ ?_
   refine via_ hK71 (WC.ret ?_)
   obtain ⟨A72, c73, rfl⟩ := row_slice (HS.mu 0 rfl)
   have le74 := row_le (HS.mu 0 rfl)
   replace HS := HS.freezeN 0 (p := (fun W => kI.C W A72 0 (([] : List Int)))) rfl (fun W_ hm_ h_ => row_C (by simp) hm_ h_.1)
   dsimp only [List.eraseIdx] at HS
   obtain ⟨rfl, rfl⟩ := Prod.mk.inj (os H)
   exact fin2 Tryz.f236 rfl rfl rfl hR_ ⟨_, _, rfl, le74, (foot_fresh (HS.footN 0 rfl)), HS.b⟩
 refine on_ (nB c12) (mv_ ?_)
 refine on_ (nB c12) (ln_ underlying28 ?_)
 refine on_ (nB c12) (v_ (fa_ underlying30) ?_)
 refine on_ (nB c12) (v_ (lb_ (HS.mu 1 rfl) underlying3 rfl) ?_)
 refine on_ (nB c12) (b_ bin_neq ?_)
 refine v_ (Run.pickF rfl rfl (nB c12) rfl) ?_
 refine mv_ ?_
 rcases eti_ H with ⟨c13, H⟩ | ⟨c13, H⟩
 · refine off_ (c' := true) (qT c13) ?_
   refine WL.know 19 (qT c13) ?_
   refine fast_ ?_
   refine via_ hK8 (wy_ rfl ?_)
   refine sr_ fun _ hK67 => ?_
   refine fast_ ?_
   refine via_ hK67 (WC.ret ?_)
   obtain ⟨A68, c69, rfl⟩ := row_slice (HS.mu 0 rfl)
   have le70 := row_le (HS.mu 0 rfl)
   replace HS := HS.freezeN 0 (p := (fun W => kI.C W A68 0 (([] : List Int)))) rfl (fun W_ hm_ h_ => row_C (by simp) hm_ h_.1)
   dsimp only [List.eraseIdx] at HS
   obtain ⟨rfl, rfl⟩ := Prod.mk.inj (os H)
   exact fin2 Tryz.f236 rfl rfl rfl hR_ ⟨_, _, rfl, le70, (foot_fresh (HS.footN 0 rfl)), HS.b⟩
 refine on_ (qF c13) (mv_ ?_)
 refine on_ (qF c13) ?_
 obtain ⟨t14, ha15, H⟩ := bind_some H
 refine cs_ HS func170 (spec_l05All.runs k A1 c1 l1 (-127) 127 t14 _ (HS.getO 2 rfl) hc1 ha15) (fun w16 HS => ?_)
 clear ha15
 refine on_ (qF c13) (nt_ ?_)
 refine v_ (Run.pickF rfl rfl (qF c13) rfl) ?_
 refine dn_ hK8 ?_
 rcases eti_ H with ⟨c17, H⟩ | ⟨c17, H⟩
 · refine wy_ (nB (bF c17)) (sr_ fun _ hK63 => ?_)
   refine fast_ ?_
   refine via_ hK63 (WC.ret ?_)
   obtain ⟨A64, c65, rfl⟩ := row_slice (HS.mu 0 rfl)
   have le66 := row_le (HS.mu 0 rfl)
   replace HS := HS.freezeN 0 (p := (fun W => kI.C W A64 0 (([] : List Int)))) rfl (fun W_ hm_ h_ => row_C (by simp) hm_ h_.1)
   dsimp only [List.eraseIdx] at HS
   obtain ⟨rfl, rfl⟩ := Prod.mk.inj (os H)
   exact fin2 Tryz.f236 rfl rfl rfl hR_ ⟨_, _, rfl, le66, (foot_fresh (HS.footN 0 rfl)), HS.b⟩
 refine wn_ (nB c17) (WC.skip (via_ hK7 (WC.seq fun K18 hK18 => ?_)))
 refine sr_ fun _ hK19 => ?_
 refine ad_ hK19 ?_
 refine WC.block ?_
 obtain ⟨G20, hG21, oc22, H, Ho23⟩ := open_G H
 let J28 := fun (xs24 : List Int) v25 I26 (i27 : Int) (E_ : Env) (W_ : World) => E_ = [(1, .slice A1 l1.length c1), (2, .pointer (some ⟨b2, 0, none⟩)), (6, v25), (7, vi i27)] ∧ St (fun _ => True) w W_ [rowM w.heap.size 3 1 v25 xs24.length I26, boxM b2 #[vi x0.f0, .slice A0_1 x0.f1.length c0_1, .slice A0_2 x0.f2.length c0_2, vi x0.f3, vi x0.f4] 30] [(cF kS3 A0_1 x0.f1), (cF kS3 A0_2 x0.f2), (cF kI A1 l1)] [(rF kI xs24 I26)]
 have X29 : ∀ E_ W_, (∃ xs24 v25 I26 i27, G20 (xs24, i27) = some (r1, r2) ∧ J28 xs24 v25 I26 i27 E_ W_) → ∀ a, Fits a 48 E_ → K18 a W_ := by
   rintro E_ w30 ⟨xs24, v25, I26, i27, H, rfl, HS⟩
   rw [hG21] at H
   (try dsimp only at H)
   refine hK18 _ _ ?_
   refine sr_ fun _ hK31 => ?_
   refine fast_ ?_
   refine via_ hK31 (WC.ret ?_)
   obtain ⟨A32, c33, rfl⟩ := row_slice (HS.mu 0 rfl)
   have le34 := row_le (HS.mu 0 rfl)
   replace HS := HS.freezeN 0 (p := (cF kI A32 (xs24))) rfl (fun W_ hm_ h_ => row_C (by rfl) hm_ h_.1)
   dsimp only [List.eraseIdx] at HS
   obtain ⟨rfl, rfl⟩ := Prod.mk.inj (os H)
   exact fin2 Tryz.f236 rfl rfl rfl hR_ ⟨_, _, rfl, le34, (foot_fresh (HS.footN 0 rfl)), HS.b⟩
 clear hK18
 refine WC.loop (fun k_ E_ W_ => ∃ xs24 v25 I26 i27, (∃ o_, spec_ApplyWide.l0 x0 l1 k_ xs24 i27 = some o_ ∧ G20 o_ = some (r1, r2)) ∧ J28 xs24 v25 I26 i27 E_ W_) k ⟨([] : List Int), v5, ([]), 0, ⟨_, H, Ho23⟩, rfl, HS⟩ (sb rfl) ?_
 rintro k_ E_ w36 ⟨xs24, v25, I26, i27, ⟨oc22, H, Ho23⟩, rfl, HS⟩
 rcases k_ with _ | k37
 · exact no_ H
 replace H : spec_ApplyWide.b0 x0 l1 (spec_ApplyWide.l0 x0 l1 k37) k37 xs24 i27 = some oc22 := H
 unfold spec_ApplyWide.b0 at H
 refine WC.seq fun _ hK38 => ?_
 refine sr_ fun _ hK39 => ?_
 refine mv_ ?_
 refine v_ (fa_ underlying30) ?_
 refine v_ (lb_ (HS.mu 1 rfl) underlying26 rfl) ?_
 refine ln_ underlying26 ?_
 refine b_ bin_lss ?_
 refine dn_ hK39 ?_
 rcases eti_ H with ⟨c40, H⟩ | ⟨c40, H⟩
 · refine wn_ (dF c40) (WC.exit ?_)
   obtain rfl := os H
   exact wv_ iq X29 ⟨xs24, v25, I26, i27, Ho23, rfl, HS⟩
 refine wy_ (dT c40) (WC.skip (via_ hK38 (WC.seq fun _ hK41 => ?_)))
 refine WC.block ?_
 obtain ⟨⟨q42, q43⟩, H⟩ := if_some H
 obtain ⟨ad44, rfl⟩ := C_open (HS.getO 0 rfl) (lenpos q42 q43)
 obtain ⟨A45, c46, le47, HS⟩ := HS.slO 0 rfl i27 q42 q43
 refine WC.drawW HS [boxM b2 #[vi x0.f0, .slice (some ad44) x0.f1.length c0_1, .slice A0_2 x0.f2.length c0_2, vi x0.f3, vi x0.f4] 30] (fun _ HS => ⟨(HS.mu 1 rfl), trivial⟩) [] rfl rfl (fun w48 HS => ?_)
 refine dm_ 0 ?_
 refine df_ 1 underlying30 ?_
 refine dm_ 3 ?_
 refine df_ 6 underlying30 ?_
 refine dm_ 8 ?_
 refine dm_ 11 ?_
 refine dt_ 2 ⟨HS.nowO, HS.nowN, ⟨(HS.mu 1 rfl), trivial⟩⟩ (fun w_ hw_ => Run.load rfl rfl underlying26 rfl (box_cell hw_.2.2.1 rfl)) ?_
 refine di_ 4 underlying26 1 q42 q43 ?_
 refine dt_ 5 ⟨HS.nowO, HS.nowN, ⟨(HS.mu 1 rfl), trivial⟩⟩ (fun w_ hw_ => Run.load rfl rfl underlying28 rfl (AllF.get 1 rfl hw_.1)) ?_
 refine dt_ 7 ⟨HS.nowO, HS.nowN, ⟨(HS.mu 1 rfl), trivial⟩⟩ (fun w_ hw_ => Run.load rfl rfl underlying26 rfl (box_cell hw_.2.2.1 rfl)) ?_
 obtain ⟨⟨q49, q50⟩, H⟩ := if_some H
 obtain ⟨ad51, rfl⟩ := C_open (HS.getO 3 rfl) (lenpos q49 q50)
 refine di_ 9 underlying26 1 q49 q50 ?_
 obtain ⟨A52, c53, le54, HS⟩ := HS.slO 3 rfl i27 q49 q50
 refine dv_ 10 (w_none rfl) (Run.load rfl rfl underlying28 rfl (HS.getO 1 rfl)) ⟨HS.nowO.2.2, HS.nowN, ⟨(HS.mu 1 rfl), trivial⟩⟩ ?_
 obtain ⟨t55, ha56, H⟩ := bind_some H
 refine dc_ 12 (w_none rfl) func272 (spec_l05Sum.runs k37 A45 c46 (x0.f1.getD i27.toNat []) A52 c53 (x0.f2.getD i27.toNat []) A1 c1 l1 t55 _ (HS.getO 2 rfl) le47 (HS.getO 0 rfl) le54 (HS.getO 6 rfl) hc1 ha56) ?_
 clear ha56
 rintro _ w57 ⟨rfl, hb⟩
 replace HS := HS.below hb
 refine ⟨⟨HS.nowO.2.2, HS.nowN, ⟨(HS.mu 1 rfl), trivial⟩⟩, _, rfl, ?_⟩
 clear hb
 have HS1 := HS.below (below_alloc (Below.refl _ _) (.cells #[vi t55] 3))
 refine dv_ 13 (w_none rfl) (Run.lit1 (z := (vi 0)) (vs := [vi t55]) rfl rfl rfl underlying28 (by kernel_rfl) (ble_ rfl) (ble_ rfl)) ⟨HS1.nowO.2.2, HS1.nowN, ⟨(HS1.mu 1 rfl), trivial⟩⟩ ?_
 obtain ⟨q58, H⟩ := if_some H
 refine WD.append 14 (w_none rfl) HS1 0 rfl rfl (vi 0) 8 underlying28 (by kernel_rfl) rfl (by decide) (by decide) rfl rfl [vi t55] rfl (lit_news _ _ _) (oneL rfl) (by omega) ((xs24 ++ [t55]).length) (by simp) (fun v59 w60 I61 hI62 HS => ?_)
 dsimp only [List.set] at HS
 replace HS := HS.deriveN (p := (rF kI (xs24 ++ [t55]) I61)) (fun W_ hN_ => reps_snoc hI62 hN_.1 (K_int _))
 clear HS1
 refine ⟨⟨HS.nowO.2.2, HS.nowN.2, ⟨(HS.mu 1 rfl), trivial⟩⟩, ?_⟩
 refine dp_ 15 (fun _ => Run.assign rfl rfl) ?_
 refine dd_ (via_ hK41 (rg_ (mv_ ?_)))
 refine b_ bin_add64 ?_
 refine as_ ?_
 refine WL.done ?_
 exact wr_ k37 iq ⟨(xs24 ++ [t55]), v59, I61, (wrap64 (i27 + 1)), ⟨_, H, Ho23⟩, rfl, (St.pk HS [4, 5, 6] [0] rfl rfl)⟩
def spec_l17Sums.b0 (t5 : (List Int) × Bool) (rec_ : Int → Int → Option (Int × Int)) (k24 : Nat) (i17 : Int) (i18 : Int) : Option (Int × Int) := (if i17 < (t5.1.length : Int) then (((if 0 ≤ i17 ∧ i17 < (t5.1.length : Int) then ((spec_l05Abs.f (t5.1.getD i17.toNat 0)).bind fun t42 => (if t42 > i18 then ((spec_l05Abs.f (t5.1.getD i17.toNat 0)).bind fun t46 => (some t46)) else (some i18))) else none) : Option Int).bind (fun oc36 => (rec_ (wrap64 (i17 + 1)) oc36))) else (some (i17, i18)))
def spec_l17Sums.l0 (t5 : (List Int) × Bool) : Nat → Int → Int → Option (Int × Int)
 | 0, _, _ => none
 | k + 1, i17, i18 => spec_l17Sums.b0 t5 (spec_l17Sums.l0 t5 k) k i17 i18
def spec_l17Sums.g (k : Nat) (x0 : S148) (x1 : S30) (l2 : List Int) : Option S148 := ((spec_ApplyWide.g k (⟨x1.f0, x1.f1, x1.f2, x1.f3, x1.f4⟩ : S30) l2).bind fun t5 => ((spec_l17Sums.l0 t5 k 0 x0.f0).bind (fun oc22 => (some (⟨oc22.2, x0.f1⟩ : S148)))))
theorem spec_l17Sums.runs (k : Nat) (b0 : Nat) (x0 : S148) (x1 : S30) (A1_1 : Option Addr) (c1_1 : Nat) (A1_2 : Option Addr) (c1_2 : Nat) (A2 : Option Addr) (c2 : Nat) (l2 : List Int) (bs_ : List Nat) (y_ : S148) (w0 w : World) (hB_ : Below w0.heap.size w0 w) (hn_ : (b0 :: bs_).Nodup) (hl_ : ∀ k, k ∈ b0 :: bs_ → w0.heap.size ≤ k ∧ k < w.heap.size) (hb0 : w.heap[b0]? = some (.cells #[vi x0.f0, vi x0.f1] 148 (0, 0))) (hr1_1 : Foot (cF kS3 A1_1 x1.f1) w (fun k_ => k_ ∉ b0 :: bs_)) (hc1_1 : x1.f1.length ≤ c1_1) (hr1_2 : Foot (cF kS3 A1_2 x1.f2) w (fun k_ => k_ ∉ b0 :: bs_)) (hc1_2 : x1.f2.length ≤ c1_2) (hr2 : Foot (cF kI A2 l2) w (fun k_ => k_ ∉ b0 :: bs_)) (hc2 : l2.length ≤ c2) (H : spec_l17Sums.g k x0 x1 l2 = some y_) :
   Calls prog 176 #[.pointer (some ⟨b0, 0, none⟩), .agg #[vi x1.f0, .slice A1_1 x1.f1.length c1_1, .slice A1_2 x1.f2.length c1_2, vi x1.f3, vi x1.f4], .slice A2 l2.length c2] w fun e w' => e = .returned (.tuple #[]) ∧ w'.heap[b0]? = some (.cells #[vi y_.f0, vi y_.f1] 148 (0, 0)) ∧ RestOf w w' b0 ∧ Below w0.heap.size w0 w' := by
 unfold spec_l17Sums.g at H
 have HS : St (fun _ => True) w0 w [boxM b0 #[vi x0.f0, vi x0.f1] 148, keepM w bs_] [(frameF w b0 bs_), (cF kS3 A1_1 x1.f1), (cF kS3 A1_2 x1.f2), (cF kI A2 l2)] [] := St.startM hB_ hn_ hl_ hb0 (foot_cons hr1_1 (foot_cons hr1_2 (foot_cons hr2 foot_nil)))
 refine cw_ (n := 39) func176 fun R_ hR_ => ?_
 refine WC.endK (fun KE hKE => ?_)
 refine sr_ fun _ hK1 => ?_
 refine bo_ HS (fun b2 w3 hb2 HS => ?_)
 refine dn_ hK1 (sr_ fun _ hK4 => ?_)
 refine v_ (ls_ (HS.mu 0 rfl) underlying30 part_all) ?_
 refine mv_ ?_
 obtain ⟨t5, ha6, H⟩ := bind_some H
 refine c_ func236 (spec_ApplyWide.runs k (⟨x1.f0, x1.f1, x1.f2, x1.f3, x1.f4⟩ : S30) A1_1 c1_1 A1_2 c1_2 A2 c2 l2 t5.1 t5.2 _ (HS.getO 1 rfl) hc1_1 (HS.getO 2 rfl) hc1_2 (HS.getO 3 rfl) hc2 ha6) ?_
 clear ha6
 rintro _ w7 ⟨A8, c9, rfl, le10, hf11, hb⟩
 replace HS := HS.newNs hb (foot_cons hf11 foot_nil)
 refine ⟨_, rfl, ?_⟩
 clear hb
 refine mv_ ?_
 refine v_ (Run.extract rfl rfl rfl) ?_
 refine v_ (Run.extract rfl rfl rfl) ?_
 refine as_ ?_
 refine ad_ hK4 ?_
 refine sr_ fun _ hK12 => ?_
 refine ad_ hK12 ?_
 refine WC.block ?_
 obtain ⟨G13, hG14, oc15, H, Ho16⟩ := open_G H
 let J19 := fun (i17 : Int) (i18 : Int) (E_ : Env) (W_ : World) => E_ = [(0, .pointer (some ⟨b0, 0, none⟩)), (6, .slice A8 t5.1.length c9), (8, vi i17)] ∧ St (fun _ => True) w0 W_ [boxM b2 #[vi x1.f0, .slice A1_1 x1.f1.length c1_1, .slice A1_2 x1.f2.length c1_2, vi x1.f3, vi x1.f4] 30, boxM b0 #[vi i18, vi x0.f1] 148, keepM w bs_] [(frameF w b0 bs_), (cF kS3 A1_1 x1.f1), (cF kS3 A1_2 x1.f2), (cF kI A2 l2)] [(cF kI A8 t5.1)]
 have X20 : ∀ E_ W_, (∃ i17 i18, G13 (i17, i18) = some y_ ∧ J19 i17 i18 E_ W_) → ∀ a, Fits a 39 E_ → KE a W_ := by
   rintro E_ w21 ⟨i17, i18, H, rfl, HS⟩
   rw [hG14] at H
   (try dsimp only at H)
   refine hKE _ _ ?_
   obtain rfl := os H
   have HSf := (St.forget HS 0 rfl)
   exact fin0 Tryz.f176 hR_ ⟨rfl, (HSf.mu 0 rfl), (rest_of (HSf.getO 0 rfl) (HSf.mu 1 rfl)), HSf.b⟩ (Or.inr rfl)
 clear hKE
 refine WC.loop (fun k_ E_ W_ => ∃ i17 i18, (∃ o_, spec_l17Sums.l0 t5 k_ i17 i18 = some o_ ∧ G13 o_ = some y_) ∧ J19 i17 i18 E_ W_) k ⟨0, x0.f0, ⟨_, H, Ho16⟩, rfl, HS⟩ (sb rfl) ?_
 rintro k_ E_ w23 ⟨i17, i18, ⟨oc15, H, Ho16⟩, rfl, HS⟩
 rcases k_ with _ | k24
 · exact no_ H
 replace H : spec_l17Sums.b0 t5 (spec_l17Sums.l0 t5 k24) k24 i17 i18 = some oc15 := H
 unfold spec_l17Sums.b0 at H
 refine WC.seq fun _ hK25 => ?_
 refine sr_ fun _ hK26 => ?_
 refine mv_ ?_
 refine mv_ ?_
 refine ln_ underlying28 ?_
 refine b_ bin_lss ?_
 refine dn_ hK26 ?_
 rcases eti_ H with ⟨c27, H⟩ | ⟨c27, H⟩
 · refine wn_ (dF c27) (WC.exit ?_)
   obtain rfl := os H
   exact wv_ iq X20 ⟨i17, i18, Ho16, rfl, HS⟩
 refine wy_ (dT c27) (WC.skip (via_ hK25 (WC.seq fun K28 hK28 => ?_)))
 obtain ⟨G29, hG30, oc31, H, Ho32⟩ := open_G H
 have X34 : ∀ E_ W_, (∃ (i33 : Int), E_ = [(0, .pointer (some ⟨b0, 0, none⟩)), (6, .slice A8 t5.1.length c9), (8, vi i17)] ∧ G29 i33 = some oc15 ∧ St (fun _ => True) w0 W_ [boxM b2 #[vi x1.f0, .slice A1_1 x1.f1.length c1_1, .slice A1_2 x1.f2.length c1_2, vi x1.f3, vi x1.f4] 30, boxM b0 #[vi i33, vi x0.f1] 148, keepM w bs_] [(frameF w b0 bs_), (cF kS3 A1_1 x1.f1), (cF kS3 A1_2 x1.f2), (cF kI A2 l2)] [(cF kI A8 t5.1)]) → ∀ a, Fits a 39 E_ → K28 a W_ := by
   rintro E_ w35 ⟨i33, rfl, H, HS⟩
   rw [hG30] at H
   (try dsimp only at H)
   refine hK28 _ _ ?_
   refine rg_ (mv_ ?_)
   refine b_ bin_add64 ?_
   refine as_ ?_
   refine WL.done ?_
   exact wr_ k24 iq ⟨(wrap64 (i17 + 1)), i33, ⟨_, H, Ho16⟩, rfl, HS⟩
 clear hK28
 refine WC.block (WC.seq fun _ hK37 => ?_)
 refine WC.drawS HS [] rfl rfl (fun w38 HS => ?_)
 have HB := Below.refl w38.heap.size w38
 have HSW := HS
 refine dm_ 0 ?_
 refine dm_ 1 ?_
 obtain ⟨⟨q39, q40⟩, H⟩ := if_some H
 obtain ⟨ad41, rfl⟩ := C_open (HS.getN 0 rfl) (lenpos q39 q40)
 refine di_ 2 underlying28 1 q39 q40 ?_
 refine dm_ 5 ?_
 refine dp_ 6 (fun _ => Run.nilCheck rfl rfl) ?_
 refine df_ 7 underlying148 ?_
 refine dt_ 3 (Below.refl _ _) (fun w_ hw_ => Run.load rfl rfl underlying3 rfl (int_cell ((HS.below hw_).getN 0 rfl) i17 q39 q40)) ?_
 refine bl_ 8 HS (Below.refl _ _) 1 underlying3 rfl ?_
 obtain ⟨t42, ha43, H⟩ := bind_some H
 refine dcs0_ HS HB 4 (w_none rfl) func197 (spec_l05Abs.calls (t5.1.getD i17.toNat 0) t42 _ ha43) (fun w44 HS HB => ?_)
 clear ha43
 refine dp_ 9 (fun _ => Run.bin rfl rfl rfl bin_gtr) ?_
 refine dd_ ?_
 clear HB HSW
 refine via_ hK37 ?_
 rcases eti_ H with ⟨c45, H⟩ | ⟨c45, H⟩
 · refine wn_ (dF c45) (WC.skip ?_)
   obtain rfl := os H
   exact wv_ iq X34 ⟨i18, rfl, Ho32, HS⟩
 refine wy_ (dT c45) (rg_ (mv_ ?_))
 refine mv_ ?_
 refine mv_ ?_
 refine v_ (ia_ underlying28 1 q39 q40) ?_
 refine v_ (Run.load rfl rfl underlying3 rfl (int_cell (HS.getN 0 rfl) i17 q39 q40)) ?_
 obtain ⟨t46, ha47, H⟩ := bind_some H
 refine cs0_ HS func197 (spec_l05Abs.calls (t5.1.getD i17.toNat 0) t46 _ ha47) (fun w48 HS => ?_)
 clear ha47
 refine v_ (Run.nilCheck rfl rfl) ?_
 refine v_ (fa_ underlying148) ?_
 refine WL.store HS 1 rfl rfl rfl rfl rfl rfl rfl (by kernel_rfl) (ble_ rfl) (cs' := #[vi t46, vi x0.f1]) (by kernel_rfl) (fun w49 HS => ?_)
 dsimp only [List.set] at HS
 refine WL.done ?_
 obtain rfl := os H
 exact wv_ iq X34 ⟨t46, rfl, Ho32, HS⟩
def spec_Apply.b0 (x0 : S30) (t5 : (List Int) × Bool) (rec_ : (List Int) → Int → Option ((List Int) × Int)) (k34 : Nat) (xs21 : List Int) (i24 : Int) : Option ((List Int) × Int) := (if i24 < (t5.1.length : Int) then (if 0 ≤ i24 ∧ i24 < (t5.1.length : Int) then ((spec_MulShift.f k34 (t5.1.getD i24.toNat 0) x0.f3 x0.f4).bind fun t43 => ((spec_l03Clamp.f t43 127).bind fun t46 => (if (xs21.length) < 4294967296 then (rec_ (xs21 ++ [t46]) (wrap64 (i24 + 1))) else none))) else none) else (some (xs21, i24)))
def spec_Apply.l0 (x0 : S30) (t5 : (List Int) × Bool) : Nat → (List Int) → Int → Option ((List Int) × Int)
 | 0, _, _ => none
 | k + 1, xs21, i24 => spec_Apply.b0 x0 t5 (spec_Apply.l0 x0 t5 k) k xs21 i24
def spec_Apply.g (k : Nat) (x0 : S30) (l1 : List Int) : Option ((List Int) × Bool) := ((spec_ApplyWide.g k (⟨x0.f0, x0.f1, x0.f2, x0.f3, x0.f4⟩ : S30) l1).bind fun t5 => ((spec_Apply.l0 x0 t5 k ([] : List Int) 0).bind (fun oc32 => (some (oc32.1, t5.2)))))
theorem spec_Apply.runs (k : Nat) (x0 : S30) (A0_1 : Option Addr) (c0_1 : Nat) (A0_2 : Option Addr) (c0_2 : Nat) (A1 : Option Addr) (c1 : Nat) (l1 : List Int) (r1 : List Int) (r2 : Bool) (w : World) (hr0_1 : kS3.C w A0_1 x0.f1.length x0.f1) (hc0_1 : x0.f1.length ≤ c0_1) (hr0_2 : kS3.C w A0_2 x0.f2.length x0.f2) (hc0_2 : x0.f2.length ≤ c0_2) (hr1 : kI.C w A1 l1.length l1) (hc1 : l1.length ≤ c1) (H : spec_Apply.g k x0 l1 = some (r1, r2)) :
   Calls prog 177 #[.agg #[vi x0.f0, .slice A0_1 x0.f1.length c0_1, .slice A0_2 x0.f2.length c0_2, vi x0.f3, vi x0.f4], .slice A1 l1.length c1] w fun e w' => ∃ (A0_ : Option Addr) (c0_ : Nat), e = .returned (.tuple #[.slice A0_ r1.length c0_, .bool r2]) ∧ r1.length ≤ c0_ ∧ Foot (cF kI A0_ r1) w' (fun k_ => w.heap.size ≤ k_) ∧ Below w.heap.size w w' := by
 unfold spec_Apply.g at H
 have HS : St (fun _ => True) w w [] [(cF kS3 A0_1 x0.f1), (cF kS3 A0_2 x0.f2), (cF kI A1 l1)] [] := St.start (foot_cons (foot_C (Kd.heap_slice _ (Kd.heap_int _)) hr0_1) (foot_cons (foot_C (Kd.heap_slice _ (Kd.heap_int _)) hr0_2) (foot_cons (foot_C (Kd.heap_int _) hr1) foot_nil)))
 refine cw_ (n := 38) func177 fun R_ hR_ => ?_
 refine sr_ fun _ hK1 => ?_
 refine bo_ HS (fun b2 w3 hb2 HS => ?_)
 refine as_ ?_
 refine ad_ hK1 ?_
 refine sr_ fun _ hK4 => ?_
 refine v_ (ls_ (HS.mu 0 rfl) underlying30 part_all) ?_
 refine mv_ ?_
 obtain ⟨t5, ha6, H⟩ := bind_some H
 refine c_ func236 (spec_ApplyWide.runs k (⟨x0.f0, x0.f1, x0.f2, x0.f3, x0.f4⟩ : S30) A0_1 c0_1 A0_2 c0_2 A1 c1 l1 t5.1 t5.2 _ (HS.getO 0 rfl) hc0_1 (HS.getO 1 rfl) hc0_2 (HS.getO 2 rfl) hc1 ha6) ?_
 clear ha6
 rintro _ w7 ⟨A8, c9, rfl, le10, hf11, hb⟩
 replace HS := HS.newNs hb (foot_cons hf11 foot_nil)
 refine ⟨_, rfl, ?_⟩
 clear hb
 refine mv_ ?_
 refine v_ (Run.extract rfl rfl rfl) ?_
 refine v_ (Run.extract rfl rfl rfl) ?_
 refine as_ ?_
 refine ad_ hK4 ?_
 refine sr_ fun _ hK12 => ?_
 refine WL.lit0 HS rfl rfl (by decide) rfl underlying28 (sz := 1) (by kernel_rfl) (fun v13 w14 HS => ?_)
 replace HS := HS.deriveN (p := (rF kI ([] : List Int) [])) (fun _ _ => Reps.none _ _)
 refine ad_ hK12 ?_
 refine WC.seq fun K15 hK15 => ?_
 refine sr_ fun _ hK16 => ?_
 refine ad_ hK16 ?_
 refine WC.block ?_
 obtain ⟨G17, hG18, oc19, H, Ho20⟩ := open_G H
 let J25 := fun (xs21 : List Int) v22 I23 (i24 : Int) (E_ : Env) (W_ : World) => E_ = [(2, .pointer (some ⟨b2, 0, none⟩)), (6, .slice A8 t5.1.length c9), (7, .bool t5.2), (8, v22), (9, vi i24)] ∧ St (fun _ => True) w W_ [rowM w.heap.size 3 1 v22 xs21.length I23, boxM b2 #[vi x0.f0, .slice A0_1 x0.f1.length c0_1, .slice A0_2 x0.f2.length c0_2, vi x0.f3, vi x0.f4] 30] [(cF kS3 A0_1 x0.f1), (cF kS3 A0_2 x0.f2), (cF kI A1 l1)] [(rF kI xs21 I23), (cF kI A8 t5.1)]
 have X26 : ∀ E_ W_, (∃ xs21 v22 I23 i24, G17 (xs21, i24) = some (r1, r2) ∧ J25 xs21 v22 I23 i24 E_ W_) → ∀ a, Fits a 38 E_ → K15 a W_ := by
   rintro E_ w27 ⟨xs21, v22, I23, i24, H, rfl, HS⟩
   rw [hG18] at H
   (try dsimp only at H)
   refine hK15 _ _ ?_
   refine sr_ fun _ hK28 => ?_
   refine fast_ ?_
   refine via_ hK28 (WC.ret ?_)
   obtain ⟨A29, c30, rfl⟩ := row_slice (HS.mu 0 rfl)
   have le31 := row_le (HS.mu 0 rfl)
   replace HS := HS.freezeN 0 (p := (cF kI A29 (xs21))) rfl (fun W_ hm_ h_ => row_C (by rfl) hm_ h_.1)
   dsimp only [List.eraseIdx] at HS
   obtain ⟨rfl, rfl⟩ := Prod.mk.inj (os H)
   exact fin2 Tryz.f177 rfl rfl rfl hR_ ⟨_, _, rfl, le31, (foot_fresh (HS.footN 0 rfl)), HS.b⟩
 clear hK15
 refine WC.loop (fun k_ E_ W_ => ∃ xs21 v22 I23 i24, (∃ o_, spec_Apply.l0 x0 t5 k_ xs21 i24 = some o_ ∧ G17 o_ = some (r1, r2)) ∧ J25 xs21 v22 I23 i24 E_ W_) k ⟨([] : List Int), v13, ([]), 0, ⟨_, H, Ho20⟩, rfl, HS⟩ (sb rfl) ?_
 rintro k_ E_ w33 ⟨xs21, v22, I23, i24, ⟨oc19, H, Ho20⟩, rfl, HS⟩
 rcases k_ with _ | k34
 · exact no_ H
 replace H : spec_Apply.b0 x0 t5 (spec_Apply.l0 x0 t5 k34) k34 xs21 i24 = some oc19 := H
 unfold spec_Apply.b0 at H
 refine WC.seq fun _ hK35 => ?_
 refine sr_ fun _ hK36 => ?_
 refine mv_ ?_
 refine mv_ ?_
 refine ln_ underlying28 ?_
 refine b_ bin_lss ?_
 refine dn_ hK36 ?_
 rcases eti_ H with ⟨c37, H⟩ | ⟨c37, H⟩
 · refine wn_ (dF c37) (WC.exit ?_)
   obtain rfl := os H
   exact wv_ iq X26 ⟨xs21, v22, I23, i24, Ho20, rfl, HS⟩
 refine wy_ (dT c37) (WC.skip (via_ hK35 (WC.seq fun _ hK38 => ?_)))
 refine WC.block (WC.drawW HS [boxM b2 #[vi x0.f0, .slice A0_1 x0.f1.length c0_1, .slice A0_2 x0.f2.length c0_2, vi x0.f3, vi x0.f4] 30] (fun _ HS => ⟨(HS.mu 1 rfl), trivial⟩) [] rfl rfl (fun w39 HS => ?_))
 refine dm_ 0 ?_
 refine dm_ 1 ?_
 refine dm_ 2 ?_
 obtain ⟨⟨q40, q41⟩, H⟩ := if_some H
 obtain ⟨ad42, rfl⟩ := C_open (HS.getN 1 rfl) (lenpos q40 q41)
 refine di_ 3 underlying28 1 q40 q41 ?_
 refine df_ 5 underlying30 ?_
 refine df_ 7 underlying30 ?_
 refine dt_ 4 ⟨HS.nowO, HS.nowN, ⟨(HS.mu 1 rfl), trivial⟩⟩ (fun w_ hw_ => Run.load rfl rfl underlying3 rfl (int_cell (AllF.get 1 rfl hw_.2.1) i24 q40 q41)) ?_
 refine dt_ 6 ⟨HS.nowO, HS.nowN, ⟨(HS.mu 1 rfl), trivial⟩⟩ (fun w_ hw_ => Run.load rfl rfl underlying3 rfl (box_cell hw_.2.2.1 rfl)) ?_
 refine dt_ 8 ⟨HS.nowO, HS.nowN, ⟨(HS.mu 1 rfl), trivial⟩⟩ (fun w_ hw_ => Run.load rfl rfl underlying3 rfl (box_cell hw_.2.2.1 rfl)) ?_
 obtain ⟨t43, ha44, H⟩ := bind_some H
 refine dc_ 9 (w_none rfl) func237 (spec_MulShift.calls k34 (t5.1.getD i24.toNat 0) x0.f3 x0.f4 t43 _ ha44) ?_
 clear ha44
 rintro _ w45 ⟨rfl, hb⟩
 have hb := hb.below
 replace HS := HS.below hb
 refine ⟨⟨HS.nowO, HS.nowN, ⟨(HS.mu 1 rfl), trivial⟩⟩, _, rfl, ?_⟩
 clear hb
 obtain ⟨t46, ha47, H⟩ := bind_some H
 refine dc_ 10 (w_none rfl) func201 (spec_l03Clamp.calls t43 127 t46 _ ha47) ?_
 clear ha47
 rintro _ w48 ⟨rfl, hb⟩
 have hb := hb.below
 replace HS := HS.below hb
 refine ⟨⟨HS.nowO, HS.nowN, ⟨(HS.mu 1 rfl), trivial⟩⟩, _, rfl, ?_⟩
 clear hb
 have HS1 := HS.below (below_alloc (Below.refl _ _) (.cells #[vi t46] 3))
 refine dv_ 11 (w_none rfl) (Run.lit1 (z := (vi 0)) (vs := [vi t46]) rfl rfl rfl underlying28 (by kernel_rfl) (ble_ rfl) (ble_ rfl)) ⟨HS1.nowO, HS1.nowN, ⟨(HS1.mu 1 rfl), trivial⟩⟩ ?_
 obtain ⟨q49, H⟩ := if_some H
 refine WD.append 12 (w_none rfl) HS1 0 rfl rfl (vi 0) 8 underlying28 (by kernel_rfl) rfl (by decide) (by decide) rfl rfl [vi t46] rfl (lit_news _ _ _) (oneL rfl) (by omega) ((xs21 ++ [t46]).length) (by simp) (fun v50 w51 I52 hI53 HS => ?_)
 dsimp only [List.set] at HS
 replace HS := HS.deriveN (p := (rF kI (xs21 ++ [t46]) I52)) (fun W_ hN_ => reps_snoc hI53 hN_.1 (K_int _))
 clear HS1
 refine ⟨⟨HS.nowO, HS.nowN.2, ⟨(HS.mu 1 rfl), trivial⟩⟩, ?_⟩
 refine dp_ 13 (fun _ => Run.assign rfl rfl) ?_
 refine dd_ (via_ hK38 (rg_ (mv_ ?_)))
 refine b_ bin_add64 ?_
 refine as_ ?_
 refine WL.done ?_
 exact wr_ k34 iq ⟨(xs21 ++ [t46]), v50, I52, (wrap64 (i24 + 1)), ⟨_, H, Ho20⟩, rfl, (St.pk HS [0, 1, 2] [0, 2] rfl rfl)⟩
def spec_TurnAll.b0 (x0 : S32) (a1 : Int) (a2 : Int) (l3 : List Int) (rec_ : (List Int) → Int → Option ((List Int) × Int)) (k77 : Nat) (xs64 : List Int) (i67 : Int) : Option ((List Int) × Int) := (if i67 < (l3.length : Int) then (if a2 ≠ 0 then (if 0 ≤ i67 ∧ i67 < (l3.length : Int) then (if 0 ≤ (wrap64 (i67 + 1)) ∧ (wrap64 (i67 + 1)) < (l3.length : Int) then (if 0 ≤ (wrap64 (Int.tdiv (Int.tmod i67 a2) 2)) ∧ (wrap64 (Int.tdiv (Int.tmod i67 a2) 2)) < ((x0.f0.getD a1.toNat []).length : Int) then (if 0 ≤ (wrap64 (Int.tdiv (Int.tmod i67 a2) 2)) ∧ (wrap64 (Int.tdiv (Int.tmod i67 a2) 2)) < ((x0.f1.getD a1.toNat []).length : Int) then ((spec_Turn.f k77 (l3.getD i67.toNat 0) (l3.getD (wrap64 (i67 + 1)).toNat 0) ((x0.f0.getD a1.toNat []).getD (wrap64 (Int.tdiv (Int.tmod i67 a2) 2)).toNat 0) ((x0.f1.getD a1.toNat []).getD (wrap64 (Int.tdiv (Int.tmod i67 a2) 2)).toNat 0)).bind fun t103 => (if (xs64.length) < 4294967296 then (rec_ (xs64 ++ [t103.1, t103.2]) (wrap64 (i67 + 2))) else none)) else none) else none) else none) else none) else none) else (some (xs64, i67)))
def spec_TurnAll.l0 (x0 : S32) (a1 : Int) (a2 : Int) (l3 : List Int) : Nat → (List Int) → Int → Option ((List Int) × Int)
 | 0, _, _ => none
 | k + 1, xs64, i67 => spec_TurnAll.b0 x0 a1 a2 l3 (spec_TurnAll.l0 x0 a1 a2 l3 k) k xs64 i67
def spec_TurnAll.g (k : Nat) (x0 : S32) (a1 : Int) (a2 : Int) (l3 : List Int) : Option ((List Int) × Bool) := ((spec_l01In.f a2 2 8).bind fun t9 => (if t9 = true then (if (Int.tmod a2 2) = 0 then (if (l3.length : Int) > 8 then (some (([] : List Int), false)) else (if a2 ≠ 0 then (if (Int.tmod (l3.length : Int) a2) = 0 then ((spec_l01In.f a1 0 (wrap64 ((x0.f0.length : Int) - 1))).bind fun t21 => (if t21 = true then (if a1 ≥ (x0.f1.length : Int) then (some (([] : List Int), false)) else (if 0 ≤ a1 ∧ a1 < (x0.f0.length : Int) then (if ((x0.f0.getD a1.toNat []).length : Int) = (wrap64 (Int.tdiv a2 2)) then (if 0 ≤ a1 ∧ a1 < (x0.f1.length : Int) then (if ((x0.f1.getD a1.toNat []).length : Int) = (wrap64 (Int.tdiv a2 2)) then ((spec_l05All.g k l3 (-127) 127).bind fun t46 => (if t46 = true then ((spec_l05All.g k (x0.f0.getD a1.toNat []) (-128) 128).bind fun t50 => (if t50 = true then ((spec_l05All.g k (x0.f1.getD a1.toNat []) (-128) 128).bind fun t54 => (if t54 = true then ((spec_TurnAll.l0 x0 a1 a2 l3 k ([] : List Int) 0).bind (fun oc75 => (some (oc75.1, true)))) else (some (([] : List Int), false)))) else (some (([] : List Int), false)))) else (some (([] : List Int), false)))) else (some (([] : List Int), false))) else none) else (some (([] : List Int), false))) else none)) else (some (([] : List Int), false)))) else (some (([] : List Int), false))) else none)) else (some (([] : List Int), false))) else (some (([] : List Int), false))))
theorem spec_TurnAll.runs (k : Nat) (x0 : S32) (A0_0 : Option Addr) (c0_0 : Nat) (A0_1 : Option Addr) (c0_1 : Nat) (a1 : Int) (a2 : Int) (A3 : Option Addr) (c3 : Nat) (l3 : List Int) (r1 : List Int) (r2 : Bool) (w : World) (hr0_0 : kS3.C w A0_0 x0.f0.length x0.f0) (hc0_0 : x0.f0.length ≤ c0_0) (hr0_1 : kS3.C w A0_1 x0.f1.length x0.f1) (hc0_1 : x0.f1.length ≤ c0_1) (hr3 : kI.C w A3 l3.length l3) (hc3 : l3.length ≤ c3) (H : spec_TurnAll.g k x0 a1 a2 l3 = some (r1, r2)) :
   Calls prog 178 #[.agg #[.slice A0_0 x0.f0.length c0_0, .slice A0_1 x0.f1.length c0_1], vi a1, vi a2, .slice A3 l3.length c3] w fun e w' => ∃ (A0_ : Option Addr) (c0_ : Nat), e = .returned (.tuple #[.slice A0_ r1.length c0_, .bool r2]) ∧ r1.length ≤ c0_ ∧ Foot (cF kI A0_ r1) w' (fun k_ => w.heap.size ≤ k_) ∧ Below w.heap.size w w' := by
 unfold spec_TurnAll.g at H
 have HS : St (fun _ => True) w w [] [(cF kS3 A0_0 x0.f0), (cF kS3 A0_1 x0.f1), (cF kI A3 l3)] [] := St.start (foot_cons (foot_C (Kd.heap_slice _ (Kd.heap_int _)) hr0_0) (foot_cons (foot_C (Kd.heap_slice _ (Kd.heap_int _)) hr0_1) (foot_cons (foot_C (Kd.heap_int _) hr3) foot_nil)))
 refine cw_ (n := 142) func178 fun R_ hR_ => ?_
 refine sr_ fun _ hK1 => ?_
 refine bo_ HS (fun b2 w3 hb2 HS => ?_)
 refine as_ ?_
 refine ad_ hK1 ?_
 clear hK1
 exact by (
 refine sr_ fun _ hK4 => ?_
 refine WL.lit0 HS rfl rfl (by decide) rfl underlying28 (sz := 1) (by kernel_rfl) (fun v5 w6 HS => ?_)
 replace HS := HS.deriveN (p := (rF kI ([] : List Int) [])) (fun _ _ => Reps.none _ _)
 refine ad_ hK4 ?_
 clear hK4
 refine WC.seq fun _ hK7 => ?_
 refine sr_ fun _ hK8 => ?_
 refine mv_ ?_
 exact by (
 obtain ⟨t9, ha10, H⟩ := bind_some H
 refine cs0_ HS func96 (spec_l01In.calls a2 2 8 t9 _ ha10) (fun w11 HS => ?_)
 clear ha10
 refine nt_ ?_
 refine mv_ ?_
 rcases eti_ H with ⟨c12, H⟩ | ⟨c12, H⟩
 · refine off_ (c' := true) (nB (bF c12)) ?_
   refine WL.know 19 (nB (bF c12)) ?_
   exact by (
   refine fast_ ?_
   refine via_ hK8 (wy_ rfl ?_)
   clear hK8
   refine sr_ fun _ hK143 => ?_
   refine fast_ ?_
   refine via_ hK143 (WC.ret ?_)
   clear hK143
   obtain ⟨A144, c145, rfl⟩ := row_slice (HS.mu 0 rfl)
   exact by (
   have le146 := row_le (HS.mu 0 rfl)
   replace HS := HS.freezeN 0 (p := (fun W => kI.C W A144 0 (([] : List Int)))) rfl (fun W_ hm_ h_ => row_C (by simp) hm_ h_.1)
   dsimp only [List.eraseIdx] at HS
   obtain ⟨rfl, rfl⟩ := Prod.mk.inj (os H)
   exact fin2 Tryz.f178 rfl rfl rfl hR_ ⟨_, _, rfl, le146, (foot_fresh (HS.footN 0 rfl)), HS.b⟩ ))
 refine on_ (nB c12) (mv_ ?_)
 refine on_ (nB c12) (v_ (Run.bin rfl rfl rfl (bin_rem (show (2 : Int) ≠ 0 by decide))) ?_)
 refine on_ (nB c12) (b_ bin_neq ?_)
 exact by (
 refine v_ (Run.pickF rfl rfl (nB c12) rfl) ?_
 refine mv_ ?_
 rcases eti_ H with ⟨c13, H⟩ | ⟨c13, H⟩
 · refine off_ (c' := true) (qT c13) ?_
   refine WL.know 24 (qT c13) ?_
   refine fast_ ?_
   refine via_ hK8 (wy_ rfl ?_)
   clear hK8
   exact by (
   refine sr_ fun _ hK139 => ?_
   refine fast_ ?_
   refine via_ hK139 (WC.ret ?_)
   clear hK139
   obtain ⟨A140, c141, rfl⟩ := row_slice (HS.mu 0 rfl)
   have le142 := row_le (HS.mu 0 rfl)
   replace HS := HS.freezeN 0 (p := (fun W => kI.C W A140 0 (([] : List Int)))) rfl (fun W_ hm_ h_ => row_C (by simp) hm_ h_.1)
   dsimp only [List.eraseIdx] at HS
   obtain ⟨rfl, rfl⟩ := Prod.mk.inj (os H)
   exact fin2 Tryz.f178 rfl rfl rfl hR_ ⟨_, _, rfl, le142, (foot_fresh (HS.footN 0 rfl)), HS.b⟩ )
 exact by (
 refine on_ (qF c13) (mv_ ?_)
 refine on_ (qF c13) (ln_ underlying28 ?_)
 refine on_ (qF c13) (b_ bin_gtr ?_)
 refine v_ (Run.pickF rfl rfl (qF c13) rfl) ?_
 refine mv_ ?_
 rcases ite_ H with ⟨c14, H⟩ | ⟨c14, H⟩
 · refine off_ (c' := true) (dT c14) ?_
   refine WL.know 29 (dT c14) ?_
   exact by (
   refine fast_ ?_
   refine via_ hK8 (wy_ rfl ?_)
   clear hK8
   refine sr_ fun _ hK15 => ?_
   refine fast_ ?_
   refine via_ hK15 (WC.ret ?_)
   clear hK15
   obtain ⟨A16, c17, rfl⟩ := row_slice (HS.mu 0 rfl)
   exact by (
   have le18 := row_le (HS.mu 0 rfl)
   replace HS := HS.freezeN 0 (p := (fun W => kI.C W A16 0 (([] : List Int)))) rfl (fun W_ hm_ h_ => row_C (by simp) hm_ h_.1)
   dsimp only [List.eraseIdx] at HS
   obtain ⟨rfl, rfl⟩ := Prod.mk.inj (os H)
   exact fin2 Tryz.f178 rfl rfl rfl hR_ ⟨_, _, rfl, le18, (foot_fresh (HS.footN 0 rfl)), HS.b⟩ ))
 refine on_ (dF c14) (mv_ ?_)
 refine on_ (dF c14) (ln_ underlying28 ?_)
 refine on_ (dF c14) (mv_ ?_)
 exact by (
 refine on_ (dF c14) ?_
 obtain ⟨z19, H⟩ := if_some H
 refine b_ (bin_rem z19) ?_
 refine on_ (dF c14) (b_ bin_neq ?_)
 refine v_ (Run.pickF rfl rfl (dF c14) rfl) ?_
 refine mv_ ?_
 rcases eti_ H with ⟨c20, H⟩ | ⟨c20, H⟩
 · refine off_ (c' := true) (qT c20) ?_
   exact by (
   refine WL.know 36 (qT c20) ?_
   refine fast_ ?_
   refine via_ hK8 (wy_ rfl ?_)
   clear hK8
   refine sr_ fun _ hK135 => ?_
   refine fast_ ?_
   refine via_ hK135 (WC.ret ?_)
   clear hK135
   exact by (
   obtain ⟨A136, c137, rfl⟩ := row_slice (HS.mu 0 rfl)
   have le138 := row_le (HS.mu 0 rfl)
   replace HS := HS.freezeN 0 (p := (fun W => kI.C W A136 0 (([] : List Int)))) rfl (fun W_ hm_ h_ => row_C (by simp) hm_ h_.1)
   dsimp only [List.eraseIdx] at HS
   obtain ⟨rfl, rfl⟩ := Prod.mk.inj (os H)
   exact fin2 Tryz.f178 rfl rfl rfl hR_ ⟨_, _, rfl, le138, (foot_fresh (HS.footN 0 rfl)), HS.b⟩ ))
 refine on_ (qF c20) (mv_ ?_)
 refine on_ (qF c20) (v_ (fa_ underlying32) ?_)
 exact by (
 refine on_ (qF c20) (v_ (lb_ (HS.mu 1 rfl) underlying26 rfl) ?_)
 refine on_ (qF c20) (ln_ underlying26 ?_)
 refine on_ (qF c20) (b_ bin_sub64 ?_)
 refine on_ (qF c20) ?_
 obtain ⟨t21, ha22, H⟩ := bind_some H
 refine cs0_ HS func96 (spec_l01In.calls a1 0 (wrap64 ((x0.f0.length : Int) - 1)) t21 _ ha22) (fun w23 HS => ?_)
 clear ha22
 refine on_ (qF c20) (nt_ ?_)
 exact by (
 refine v_ (Run.pickF rfl rfl (qF c20) rfl) ?_
 refine mv_ ?_
 rcases eti_ H with ⟨c24, H⟩ | ⟨c24, H⟩
 · refine off_ (c' := true) (nB (bF c24)) ?_
   refine WL.know 45 (nB (bF c24)) ?_
   refine fast_ ?_
   refine via_ hK8 (wy_ rfl ?_)
   clear hK8
   exact by (
   refine sr_ fun _ hK131 => ?_
   refine fast_ ?_
   refine via_ hK131 (WC.ret ?_)
   clear hK131
   obtain ⟨A132, c133, rfl⟩ := row_slice (HS.mu 0 rfl)
   have le134 := row_le (HS.mu 0 rfl)
   replace HS := HS.freezeN 0 (p := (fun W => kI.C W A132 0 (([] : List Int)))) rfl (fun W_ hm_ h_ => row_C (by simp) hm_ h_.1)
   dsimp only [List.eraseIdx] at HS
   obtain ⟨rfl, rfl⟩ := Prod.mk.inj (os H)
   exact fin2 Tryz.f178 rfl rfl rfl hR_ ⟨_, _, rfl, le134, (foot_fresh (HS.footN 0 rfl)), HS.b⟩ )
 exact by (
 refine on_ (nB c24) (mv_ ?_)
 refine on_ (nB c24) (v_ (fa_ underlying32) ?_)
 refine on_ (nB c24) (v_ (lb_ (HS.mu 1 rfl) underlying26 rfl) ?_)
 refine on_ (nB c24) (ln_ underlying26 ?_)
 refine on_ (nB c24) (b_ bin_geq ?_)
 refine v_ (Run.pickF rfl rfl (nB c24) rfl) ?_
 refine mv_ ?_
 rcases ite_ H with ⟨c25, H⟩ | ⟨c25, H⟩
 · refine off_ (c' := true) (dT c25) ?_
   exact by (
   refine WL.know 52 (dT c25) ?_
   refine fast_ ?_
   refine via_ hK8 (wy_ rfl ?_)
   clear hK8
   refine sr_ fun _ hK26 => ?_
   refine fast_ ?_
   refine via_ hK26 (WC.ret ?_)
   clear hK26
   exact by (
   obtain ⟨A27, c28, rfl⟩ := row_slice (HS.mu 0 rfl)
   have le29 := row_le (HS.mu 0 rfl)
   replace HS := HS.freezeN 0 (p := (fun W => kI.C W A27 0 (([] : List Int)))) rfl (fun W_ hm_ h_ => row_C (by simp) hm_ h_.1)
   dsimp only [List.eraseIdx] at HS
   obtain ⟨rfl, rfl⟩ := Prod.mk.inj (os H)
   exact fin2 Tryz.f178 rfl rfl rfl hR_ ⟨_, _, rfl, le29, (foot_fresh (HS.footN 0 rfl)), HS.b⟩ ))
 refine on_ (dF c25) (v_ (fa_ underlying32) ?_)
 refine on_ (dF c25) (v_ (lb_ (HS.mu 1 rfl) underlying26 rfl) ?_)
 exact by (
 refine on_ (dF c25) (mv_ ?_)
 refine on_ (dF c25) ?_
 obtain ⟨⟨q30, q31⟩, H⟩ := if_some H
 obtain ⟨ad32, rfl⟩ := C_open (HS.getO 0 rfl) (lenpos q30 q31)
 refine v_ (ia_ underlying26 1 q30 q31) ?_
 refine on_ (dF c25) ?_
 obtain ⟨A33, c34, le35, HS⟩ := HS.slO 0 rfl a1 q30 q31
 refine v_ (Run.load rfl rfl underlying28 rfl (HS.getO 1 rfl)) ?_
 exact by (
 refine on_ (dF c25) (ln_ underlying28 ?_)
 refine on_ (dF c25) (mv_ ?_)
 refine on_ (dF c25) (v_ (Run.bin rfl rfl rfl (bin_quo64 (show (2 : Int) ≠ 0 by decide))) ?_)
 refine on_ (dF c25) (b_ bin_neq ?_)
 refine v_ (Run.pickF rfl rfl (dF c25) rfl) ?_
 refine mv_ ?_
 rcases eti_ H with ⟨c36, H⟩ | ⟨c36, H⟩
 · refine off_ (c' := true) (qT c36) ?_
   exact by (
   refine WL.know 63 (qT c36) ?_
   refine fast_ ?_
   refine via_ hK8 (wy_ rfl ?_)
   clear hK8
   refine sr_ fun _ hK127 => ?_
   refine fast_ ?_
   refine via_ hK127 (WC.ret ?_)
   clear hK127
   exact by (
   obtain ⟨A128, c129, rfl⟩ := row_slice (HS.mu 0 rfl)
   have le130 := row_le (HS.mu 0 rfl)
   replace HS := HS.freezeN 0 (p := (fun W => kI.C W A128 0 (([] : List Int)))) rfl (fun W_ hm_ h_ => row_C (by simp) hm_ h_.1)
   dsimp only [List.eraseIdx] at HS
   obtain ⟨rfl, rfl⟩ := Prod.mk.inj (os H)
   exact fin2 Tryz.f178 rfl rfl rfl hR_ ⟨_, _, rfl, le130, (foot_fresh (HS.footN 0 rfl)), HS.b⟩ ))
 refine on_ (qF c36) (v_ (fa_ underlying32) ?_)
 refine on_ (qF c36) (v_ (lb_ (HS.mu 1 rfl) underlying26 rfl) ?_)
 exact by (
 refine on_ (qF c36) (mv_ ?_)
 refine on_ (qF c36) ?_
 obtain ⟨⟨q37, q38⟩, H⟩ := if_some H
 obtain ⟨ad39, rfl⟩ := C_open (HS.getO 3 rfl) (lenpos q37 q38)
 refine v_ (ia_ underlying26 1 q37 q38) ?_
 refine on_ (qF c36) ?_
 obtain ⟨A40, c41, le42, HS⟩ := HS.slO 3 rfl a1 q37 q38
 refine v_ (Run.load rfl rfl underlying28 rfl (HS.getO 1 rfl)) ?_
 exact by (
 refine on_ (qF c36) (ln_ underlying28 ?_)
 refine on_ (qF c36) (mv_ ?_)
 refine on_ (qF c36) (v_ (Run.bin rfl rfl rfl (bin_quo64 (show (2 : Int) ≠ 0 by decide))) ?_)
 refine on_ (qF c36) (b_ bin_neq ?_)
 refine v_ (Run.pickF rfl rfl (qF c36) rfl) ?_
 refine dn_ hK8 ?_
 clear hK8
 rcases eti_ H with ⟨c43, H⟩ | ⟨c43, H⟩
 · refine wy_ (qT c43) (sr_ fun _ hK123 => ?_)
   exact by (
   refine fast_ ?_
   refine via_ hK123 (WC.ret ?_)
   clear hK123
   obtain ⟨A124, c125, rfl⟩ := row_slice (HS.mu 0 rfl)
   have le126 := row_le (HS.mu 0 rfl)
   replace HS := HS.freezeN 0 (p := (fun W => kI.C W A124 0 (([] : List Int)))) rfl (fun W_ hm_ h_ => row_C (by simp) hm_ h_.1)
   dsimp only [List.eraseIdx] at HS
   obtain ⟨rfl, rfl⟩ := Prod.mk.inj (os H)
   exact fin2 Tryz.f178 rfl rfl rfl hR_ ⟨_, _, rfl, le126, (foot_fresh (HS.footN 0 rfl)), HS.b⟩ )
 exact by (
 refine wn_ (qF c43) (WC.skip (via_ hK7 (WC.seq fun _ hK44 => ?_)))
 clear hK7
 refine sr_ fun _ hK45 => ?_
 refine mv_ ?_
 obtain ⟨t46, ha47, H⟩ := bind_some H
 refine cs_ HS func170 (spec_l05All.runs k A3 c3 l3 (-127) 127 t46 _ (HS.getO 6 rfl) hc3 ha47) (fun w48 HS => ?_)
 clear ha47
 refine nt_ ?_
 exact by (
 refine mv_ ?_
 rcases eti_ H with ⟨c49, H⟩ | ⟨c49, H⟩
 · refine off_ (c' := true) (nB (bF c49)) ?_
   refine WL.know 78 (nB (bF c49)) ?_
   refine fast_ ?_
   refine via_ hK45 (wy_ rfl ?_)
   clear hK45
   refine sr_ fun _ hK119 => ?_
   exact by (
   refine fast_ ?_
   refine via_ hK119 (WC.ret ?_)
   clear hK119
   obtain ⟨A120, c121, rfl⟩ := row_slice (HS.mu 0 rfl)
   have le122 := row_le (HS.mu 0 rfl)
   replace HS := HS.freezeN 0 (p := (fun W => kI.C W A120 0 (([] : List Int)))) rfl (fun W_ hm_ h_ => row_C (by simp) hm_ h_.1)
   dsimp only [List.eraseIdx] at HS
   obtain ⟨rfl, rfl⟩ := Prod.mk.inj (os H)
   exact fin2 Tryz.f178 rfl rfl rfl hR_ ⟨_, _, rfl, le122, (foot_fresh (HS.footN 0 rfl)), HS.b⟩ )
 exact by (
 refine on_ (nB c49) (v_ (fa_ underlying32) ?_)
 refine on_ (nB c49) (v_ (lb_ (HS.mu 1 rfl) underlying26 rfl) ?_)
 refine on_ (nB c49) (mv_ ?_)
 refine on_ (nB c49) (v_ (ia_ underlying26 1 q30 q31) ?_)
 refine on_ (nB c49) (v_ (Run.load rfl rfl underlying28 rfl (HS.getO 3 rfl)) ?_)
 refine on_ (nB c49) ?_
 obtain ⟨t50, ha51, H⟩ := bind_some H
 refine cs_ HS func170 (spec_l05All.runs k A33 c34 (x0.f0.getD a1.toNat []) (-128) 128 t50 _ (HS.getO 2 rfl) le35 ha51) (fun w52 HS => ?_)
 exact by (
 clear ha51
 refine on_ (nB c49) (nt_ ?_)
 refine v_ (Run.pickF rfl rfl (nB c49) rfl) ?_
 refine mv_ ?_
 rcases eti_ H with ⟨c53, H⟩ | ⟨c53, H⟩
 · refine off_ (c' := true) (nB (bF c53)) ?_
   refine WL.know 87 (nB (bF c53)) ?_
   refine fast_ ?_
   exact by (
   refine via_ hK45 (wy_ rfl ?_)
   clear hK45
   refine sr_ fun _ hK115 => ?_
   refine fast_ ?_
   refine via_ hK115 (WC.ret ?_)
   clear hK115
   obtain ⟨A116, c117, rfl⟩ := row_slice (HS.mu 0 rfl)
   have le118 := row_le (HS.mu 0 rfl)
   exact by (
   replace HS := HS.freezeN 0 (p := (fun W => kI.C W A116 0 (([] : List Int)))) rfl (fun W_ hm_ h_ => row_C (by simp) hm_ h_.1)
   dsimp only [List.eraseIdx] at HS
   obtain ⟨rfl, rfl⟩ := Prod.mk.inj (os H)
   exact fin2 Tryz.f178 rfl rfl rfl hR_ ⟨_, _, rfl, le118, (foot_fresh (HS.footN 0 rfl)), HS.b⟩ ))
 refine on_ (nB c53) (v_ (fa_ underlying32) ?_)
 refine on_ (nB c53) (v_ (lb_ (HS.mu 1 rfl) underlying26 rfl) ?_)
 refine on_ (nB c53) (mv_ ?_)
 refine on_ (nB c53) (v_ (ia_ underlying26 1 q37 q38) ?_)
 exact by (
 refine on_ (nB c53) (v_ (Run.load rfl rfl underlying28 rfl (HS.getO 1 rfl)) ?_)
 refine on_ (nB c53) ?_
 obtain ⟨t54, ha55, H⟩ := bind_some H
 refine cs_ HS func170 (spec_l05All.runs k A40 c41 (x0.f1.getD a1.toNat []) (-128) 128 t54 _ (HS.getO 0 rfl) le42 ha55) (fun w56 HS => ?_)
 clear ha55
 refine on_ (nB c53) (nt_ ?_)
 refine v_ (Run.pickF rfl rfl (nB c53) rfl) ?_
 refine dn_ hK45 ?_
 exact by (
 clear hK45
 rcases eti_ H with ⟨c57, H⟩ | ⟨c57, H⟩
 · refine wy_ (nB (bF c57)) (sr_ fun _ hK111 => ?_)
   refine fast_ ?_
   refine via_ hK111 (WC.ret ?_)
   clear hK111
   obtain ⟨A112, c113, rfl⟩ := row_slice (HS.mu 0 rfl)
   have le114 := row_le (HS.mu 0 rfl)
   exact by (
   replace HS := HS.freezeN 0 (p := (fun W => kI.C W A112 0 (([] : List Int)))) rfl (fun W_ hm_ h_ => row_C (by simp) hm_ h_.1)
   dsimp only [List.eraseIdx] at HS
   obtain ⟨rfl, rfl⟩ := Prod.mk.inj (os H)
   exact fin2 Tryz.f178 rfl rfl rfl hR_ ⟨_, _, rfl, le114, (foot_fresh (HS.footN 0 rfl)), HS.b⟩ )
 refine wn_ (nB c57) (WC.skip (via_ hK44 (WC.seq fun K58 hK58 => ?_)))
 clear hK44
 refine sr_ fun _ hK59 => ?_
 refine ad_ hK59 ?_
 exact by (
 clear hK59
 refine WC.block ?_
 obtain ⟨G60, hG61, oc62, H, Ho63⟩ := open_G H
 let J68 := fun (xs64 : List Int) v65 I66 (i67 : Int) (E_ : Env) (W_ : World) => E_ = [(1, vi a1), (2, vi a2), (3, .slice A3 l3.length c3), (4, .pointer (some ⟨b2, 0, none⟩)), (10, v65), (11, vi i67)] ∧ St (fun _ => True) w W_ [rowM w.heap.size 3 1 v65 xs64.length I66, boxM b2 #[.slice (some ad32) x0.f0.length c0_0, .slice (some ad39) x0.f1.length c0_1] 32] [(cF kS3 (some ad32) x0.f0), (cF kS3 (some ad39) x0.f1), (cF kI A3 l3)] [(rF kI xs64 I66)]
 have X69 : ∀ E_ W_, (∃ xs64 v65 I66 i67, G60 (xs64, i67) = some (r1, r2) ∧ J68 xs64 v65 I66 i67 E_ W_) → ∀ a, Fits a 142 E_ → K58 a W_ := by
   rintro E_ w70 ⟨xs64, v65, I66, i67, H, rfl, HS⟩
   rw [hG61] at H
   (try dsimp only at H)
   exact by (
   refine hK58 _ _ ?_
   clear hK58
   refine sr_ fun _ hK71 => ?_
   refine fast_ ?_
   refine via_ hK71 (WC.ret ?_)
   clear hK71
   obtain ⟨A72, c73, rfl⟩ := row_slice (HS.mu 0 rfl)
   have le74 := row_le (HS.mu 0 rfl)
   exact by (
   replace HS := HS.freezeN 0 (p := (cF kI A72 (xs64))) rfl (fun W_ hm_ h_ => row_C (by rfl) hm_ h_.1)
   dsimp only [List.eraseIdx] at HS
   obtain ⟨rfl, rfl⟩ := Prod.mk.inj (os H)
   exact fin2 Tryz.f178 rfl rfl rfl hR_ ⟨_, _, rfl, le74, (foot_fresh (HS.footN 0 rfl)), HS.b⟩ ))
 clear hK58
 refine WC.loop (fun k_ E_ W_ => ∃ xs64 v65 I66 i67, (∃ o_, spec_TurnAll.l0 x0 a1 a2 l3 k_ xs64 i67 = some o_ ∧ G60 o_ = some (r1, r2)) ∧ J68 xs64 v65 I66 i67 E_ W_) k ⟨([] : List Int), v5, ([]), 0, ⟨_, H, Ho63⟩, rfl, (St.pk HS [4, 5, 6] [0] rfl rfl)⟩ (sb rfl) ?_
 rintro k_ E_ w76 ⟨xs64, v65, I66, i67, ⟨oc62, H, Ho63⟩, rfl, HS⟩
 rcases k_ with _ | k77
 · exact no_ H
 exact by (
 replace H : spec_TurnAll.b0 x0 a1 a2 l3 (spec_TurnAll.l0 x0 a1 a2 l3 k77) k77 xs64 i67 = some oc62 := H
 unfold spec_TurnAll.b0 at H
 refine WC.seq fun _ hK78 => ?_
 refine sr_ fun _ hK79 => ?_
 refine mv_ ?_
 refine mv_ ?_
 refine ln_ underlying28 ?_
 refine b_ bin_lss ?_
 exact by (
 refine dn_ hK79 ?_
 clear hK79
 rcases eti_ H with ⟨c80, H⟩ | ⟨c80, H⟩
 · refine wn_ (dF c80) (WC.exit ?_)
   obtain rfl := os H
   exact wv_ iq X69 ⟨xs64, v65, I66, i67, Ho63, rfl, HS⟩
 refine wy_ (dT c80) (WC.skip (via_ hK78 (WC.seq fun _ hK81 => ?_)))
 clear hK78
 exact by (
 refine WC.block (sr_ fun _ hK82 => ?_)
 refine mv_ ?_
 refine mv_ ?_
 obtain ⟨z83, H⟩ := if_some H
 refine b_ (bin_rem z83) ?_
 refine v_ (Run.bin rfl rfl rfl (bin_quo64 (show (2 : Int) ≠ 0 by decide))) ?_
 refine ad_ hK82 ?_
 clear hK82
 exact by (
 refine WC.seq fun _ hK84 => ?_
 refine WC.drawS HS [] rfl rfl (fun w85 HS => ?_)
 have HB := Below.refl w85.heap.size w85
 have HSW := HS
 refine dm_ 0 ?_
 refine dm_ 1 ?_
 obtain ⟨⟨q86, q87⟩, H⟩ := if_some H
 obtain ⟨ad88, rfl⟩ := C_open (HS.getO 2 rfl) (lenpos q86 q87)
 exact by (
 refine di_ 2 underlying28 1 q86 q87 ?_
 refine dm_ 4 ?_
 refine dm_ 5 ?_
 refine dp_ 6 (fun _ => Run.bin rfl rfl rfl bin_add64) ?_
 obtain ⟨⟨q89, q90⟩, H⟩ := if_some H
 refine di_ 7 underlying28 1 q89 q90 ?_
 refine df_ 9 underlying32 ?_
 refine dm_ 11 ?_
 exact by (
 refine dm_ 14 ?_
 refine df_ 17 underlying32 ?_
 refine dm_ 19 ?_
 refine dm_ 22 ?_
 refine dt_ 3 (Below.refl _ _) (fun w_ hw_ => Run.load rfl rfl underlying3 rfl (int_cell ((HS.below hw_).getO 2 rfl) i67 q86 q87)) ?_
 refine dt_ 8 (Below.refl _ _) (fun w_ hw_ => Run.load rfl rfl underlying3 rfl (int_cell ((HS.below hw_).getO 2 rfl) (wrap64 (i67 + 1)) q89 q90)) ?_
 refine bl_ 10 HS (Below.refl _ _) 1 underlying26 rfl ?_
 refine di_ 12 underlying26 1 q30 q31 ?_
 exact by (
 obtain ⟨A91, c92, le93, HS⟩ := HS.slO 0 rfl a1 q30 q31
 replace HSW := HS
 refine dt_ 13 (Below.refl _ _) (fun w_ hw_ => Run.load rfl rfl underlying28 rfl ((HS.below hw_).getO 1 rfl)) ?_
 obtain ⟨⟨q94, q95⟩, H⟩ := if_some H
 obtain ⟨ad96, rfl⟩ := C_open (HS.getO 0 rfl) (lenpos q94 q95)
 refine di_ 15 underlying28 1 q94 q95 ?_
 refine dt_ 16 (Below.refl _ _) (fun w_ hw_ => Run.load rfl rfl underlying3 rfl (int_cell ((HS.below hw_).getO 0 rfl) (wrap64 (Int.tdiv (Int.tmod i67 a2) 2)) q94 q95)) ?_
 refine bl_ 18 HS (Below.refl _ _) 1 underlying26 rfl ?_
 exact by (
 refine di_ 20 underlying26 1 q37 q38 ?_
 obtain ⟨A97, c98, le99, HS⟩ := HS.slO 3 rfl a1 q37 q38
 replace HSW := HS
 refine dt_ 21 (Below.refl _ _) (fun w_ hw_ => Run.load rfl rfl underlying28 rfl ((HS.below hw_).getO 1 rfl)) ?_
 obtain ⟨⟨q100, q101⟩, H⟩ := if_some H
 obtain ⟨ad102, rfl⟩ := C_open (HS.getO 0 rfl) (lenpos q100 q101)
 refine di_ 23 underlying28 1 q100 q101 ?_
 refine dt_ 24 (Below.refl _ _) (fun w_ hw_ => Run.load rfl rfl underlying3 rfl (int_cell ((HS.below hw_).getO 0 rfl) (wrap64 (Int.tdiv (Int.tmod i67 a2) 2)) q100 q101)) ?_
 exact by (
 obtain ⟨t103, ha104, H⟩ := bind_some H
 refine dcs0_ HS HB 25 (w_none rfl) func238 (spec_Turn.calls k77 (l3.getD i67.toNat 0) (l3.getD (wrap64 (i67 + 1)).toNat 0) ((x0.f0.getD a1.toNat []).getD (wrap64 (Int.tdiv (Int.tmod i67 a2) 2)).toNat 0) ((x0.f1.getD a1.toNat []).getD (wrap64 (Int.tdiv (Int.tmod i67 a2) 2)).toNat 0) t103.1 t103.2 _ ha104) (fun w105 HS HB => ?_)
 clear ha104
 refine dm_ 26 ?_
 refine dp_ 27 (fun _ => Run.extract rfl rfl rfl) ?_
 refine dp_ 28 (fun _ => Run.extract rfl rfl rfl) ?_
 refine dp_ 29 (fun _ => Run.assign rfl rfl) ?_
 refine dp_ 30 (fun _ => Run.assign rfl rfl) ?_
 exact by (
 refine dd_ ?_
 clear HB HSW
 refine via_ hK84 (rg_ (mv_ ?_))
 clear hK84
 refine mv_ ?_
 refine mv_ ?_
 refine WL.val rfl rfl (by decide) (Run.litN (sz := 1) (z := (vi 0)) (L := [[vi t103.1], [vi t103.2]]) rfl ⟨⟨rfl, _, rfl, rfl, rfl⟩, ⟨⟨rfl, _, rfl, rfl, rfl⟩, trivial⟩⟩ rfl underlying28 (by kernel_rfl) (by decide) (by decide)) ?_
 have HS1 := HS.below (below_alloc (Below.refl _ _) (.cells (List.toArray [vi t103.1, vi t103.2]) 3))
 exact by (
 obtain ⟨q106, H⟩ := if_some H
 refine WL.append HS1 0 rfl rfl rfl (by decide) rfl (vi 0) 8 underlying28 (by kernel_rfl) rfl (by decide) (by decide) rfl rfl [vi t103.1, vi t103.2] rfl (lit_news _ _ _) (oneL rfl) (by omega) ((xs64 ++ [t103.1, t103.2]).length) (by simp <;> omega) (fun v107 w108 I109 hI110 HS => ?_)
 dsimp only [List.set] at HS
 replace HS := HS.deriveN (p := (rF kI (xs64 ++ [t103.1, t103.2]) I109)) (fun W_ hN_ => reps_more (J := List.flatten [[vi t103.1], [vi t103.2]]) hI110 hN_.1 (reps_lit ⟨(K_int _), ⟨(K_int _), trivial⟩⟩))
 clear HS1
 refine ad_ hK81 ?_
 clear hK81
 refine rg_ (mv_ ?_)
 exact by (
 refine b_ bin_add64 ?_
 refine as_ ?_
 refine WL.done ?_
 exact wr_ k77 iq ⟨(xs64 ++ [t103.1, t103.2]), v107, I109, (wrap64 (i67 + 2)), ⟨_, H, Ho63⟩, rfl, (St.pk HS [4, 5, 6] [0] rfl rfl)⟩ )))))))))))))))))))))))))))))))
def spec_Heads.b1 (l0 : List Int) (a1 : Int) (rec_ : (List (List Int)) → Int → Option ((List (List Int)) × Int)) (k102 : Nat) (xs89 : List (List Int)) (i92 : Int) : Option ((List (List Int)) × Int) := (if i92 < a1 then (if 0 ≤ (wrap64 (i92 * (wrap64 (Int.tdiv (l0.length : Int) a1)))) ∧ (wrap64 (i92 * (wrap64 (Int.tdiv (l0.length : Int) a1)))) ≤ (wrap64 ((wrap64 (i92 * (wrap64 (Int.tdiv (l0.length : Int) a1)))) + (wrap64 (Int.tdiv (l0.length : Int) a1)))) ∧ (wrap64 ((wrap64 (i92 * (wrap64 (Int.tdiv (l0.length : Int) a1)))) + (wrap64 (Int.tdiv (l0.length : Int) a1)))) ≤ (l0.length : Int) then (if (0) + (((l0.take (wrap64 ((wrap64 (i92 * (wrap64 (Int.tdiv (l0.length : Int) a1)))) + (wrap64 (Int.tdiv (l0.length : Int) a1)))).toNat).drop (wrap64 (i92 * (wrap64 (Int.tdiv (l0.length : Int) a1)))).toNat).length) < 4294967296 then (if (xs89.length) < 4294967296 then (rec_ (xs89 ++ [(([] : List Int) ++ ((l0.take (wrap64 ((wrap64 (i92 * (wrap64 (Int.tdiv (l0.length : Int) a1)))) + (wrap64 (Int.tdiv (l0.length : Int) a1)))).toNat).drop (wrap64 (i92 * (wrap64 (Int.tdiv (l0.length : Int) a1)))).toNat))]) (wrap64 (i92 + 1))) else none) else none) else none) else (some (xs89, i92)))
def spec_Heads.l1 (l0 : List Int) (a1 : Int) : Nat → (List (List Int)) → Int → Option ((List (List Int)) × Int)
 | 0, _, _ => none
 | k + 1, xs89, i92 => spec_Heads.b1 l0 a1 (spec_Heads.l1 l0 a1 k) k xs89 i92
def spec_Heads.b0 (l0 : List Int) (a1 : Int) (rec_ : (List (List Int)) → Int → Option ((List (List Int)) × Int)) (k36 : Nat) (xs23 : List (List Int)) (i26 : Int) : Option ((List (List Int)) × Int) := (if i26 < a1 then (if 0 ≤ (wrap64 (i26 * (wrap64 (Int.tdiv (l0.length : Int) a1)))) ∧ (wrap64 (i26 * (wrap64 (Int.tdiv (l0.length : Int) a1)))) ≤ (wrap64 ((wrap64 (i26 * (wrap64 (Int.tdiv (l0.length : Int) a1)))) + (wrap64 (Int.tdiv (l0.length : Int) a1)))) ∧ (wrap64 ((wrap64 (i26 * (wrap64 (Int.tdiv (l0.length : Int) a1)))) + (wrap64 (Int.tdiv (l0.length : Int) a1)))) ≤ (l0.length : Int) then (if (0) + (((l0.take (wrap64 ((wrap64 (i26 * (wrap64 (Int.tdiv (l0.length : Int) a1)))) + (wrap64 (Int.tdiv (l0.length : Int) a1)))).toNat).drop (wrap64 (i26 * (wrap64 (Int.tdiv (l0.length : Int) a1)))).toNat).length) < 4294967296 then (if (xs23.length) < 4294967296 then (rec_ (xs23 ++ [(([] : List Int) ++ ((l0.take (wrap64 ((wrap64 (i26 * (wrap64 (Int.tdiv (l0.length : Int) a1)))) + (wrap64 (Int.tdiv (l0.length : Int) a1)))).toNat).drop (wrap64 (i26 * (wrap64 (Int.tdiv (l0.length : Int) a1)))).toNat))]) (wrap64 (i26 + 1))) else none) else none) else none) else (some (xs23, i26)))
def spec_Heads.l0 (l0 : List Int) (a1 : Int) : Nat → (List (List Int)) → Int → Option ((List (List Int)) × Int)
 | 0, _, _ => none
 | k + 1, xs23, i26 => spec_Heads.b0 l0 a1 (spec_Heads.l0 l0 a1 k) k xs23 i26
def spec_Heads.g (k : Nat) (l0 : List Int) (a1 : Int) : Option ((List (List Int)) × Bool) := (if a1 = 1 then (if (l0.length : Int) = 0 then (some (([] : List (List Int)), false)) else (if a1 ≠ 0 then (if (Int.tmod (l0.length : Int) a1) = 0 then (if a1 ≠ 0 then ((spec_Heads.l0 l0 a1 k ([] : List (List Int)) 0).bind (fun oc34 => (some (oc34.1, true)))) else none) else (some (([] : List (List Int)), false))) else none)) else (if a1 = 2 then (if (l0.length : Int) = 0 then (some (([] : List (List Int)), false)) else (if a1 ≠ 0 then (if (Int.tmod (l0.length : Int) a1) = 0 then (if a1 ≠ 0 then ((spec_Heads.l1 l0 a1 k ([] : List (List Int)) 0).bind (fun oc100 => (some (oc100.1, true)))) else none) else (some (([] : List (List Int)), false))) else none)) else (some (([] : List (List Int)), false))))
theorem spec_Heads.runs (k : Nat) (A0 : Option Addr) (c0 : Nat) (l0 : List Int) (a1 : Int) (r1 : List (List Int)) (r2 : Bool) (w : World) (hr0 : kI.C w A0 l0.length l0) (hc0 : l0.length ≤ c0) (H : spec_Heads.g k l0 a1 = some (r1, r2)) :
   Calls prog 179 #[.slice A0 l0.length c0, vi a1] w fun e w' => ∃ (A0_ : Option Addr) (c0_ : Nat), e = .returned (.tuple #[.slice A0_ r1.length c0_, .bool r2]) ∧ r1.length ≤ c0_ ∧ Foot (cF kS3 A0_ r1) w' (fun k_ => w.heap.size ≤ k_) ∧ Below w.heap.size w w' := by
 unfold spec_Heads.g at H
 have HS : St (fun _ => True) w w [] [(cF kI A0 l0)] [] := St.start (foot_cons (foot_C (Kd.heap_int _) hr0) foot_nil)
 refine cw_ (n := 54) func179 fun R_ hR_ => ?_
 refine sr_ fun _ hK1 => ?_
 refine as_ ?_
 refine ad_ hK1 ?_
 clear hK1
 refine sr_ fun _ hK2 => ?_
 exact by (
 refine WL.lit0 HS rfl rfl (by decide) rfl underlying26 (sz := 1) (by kernel_rfl) (fun v3 w4 HS => ?_)
 replace HS := HS.deriveN (p := (rF kS3 ([] : List (List Int)) [])) (fun _ _ => Reps.none _ _)
 refine ad_ hK2 ?_
 clear hK2
 refine WC.seq fun _ hK5 => ?_
 refine sr_ fun _ hK6 => ?_
 refine mv_ ?_
 refine b_ bin_neq ?_
 exact by (
 refine mv_ ?_
 rcases ite_ H with ⟨c7, H⟩ | ⟨c7, H⟩
 · refine off_ (c' := false) (qF c7) ?_
   refine off_ (c' := false) (qF c7) ?_
   refine v_ (Run.pickF rfl rfl (qF c7) rfl) ?_
   refine mv_ ?_
   refine on_ rfl ?_
   refine mv_ ?_
   exact by (
   refine on_ rfl ?_
   refine ln_ underlying28 ?_
   refine on_ rfl ?_
   refine b_ bin_eql ?_
   refine v_ (Run.pickF rfl rfl rfl rfl) ?_
   refine mv_ ?_
   rcases ite_ H with ⟨c8, H⟩ | ⟨c8, H⟩
   · refine off_ (c' := true) (eT c8) ?_
     exact by (
     refine WL.know 21 (eT c8) ?_
     refine fast_ ?_
     refine via_ hK6 (wy_ rfl ?_)
     clear hK6
     refine sr_ fun _ hK9 => ?_
     refine fast_ ?_
     refine via_ hK9 (WC.ret ?_)
     clear hK9
     exact by (
     obtain ⟨A10, c11, rfl⟩ := row_slice (HS.mu 0 rfl)
     have le12 := row_le (HS.mu 0 rfl)
     replace HS := HS.freezeN 0 (p := (fun W => kS3.C W A10 0 (([] : List (List Int))))) rfl (fun W_ hm_ h_ => row_C (by simp) hm_ h_.1)
     dsimp only [List.eraseIdx] at HS
     obtain ⟨rfl, rfl⟩ := Prod.mk.inj (os H)
     exact fin2 Tryz.f179 rfl rfl rfl hR_ ⟨_, _, rfl, le12, (foot_fresh (HS.footN 0 rfl)), HS.b⟩ ))
   refine on_ (eF c8) (mv_ ?_)
   refine on_ (eF c8) (ln_ underlying28 ?_)
   exact by (
   refine on_ (eF c8) (mv_ ?_)
   refine on_ (eF c8) ?_
   obtain ⟨z13, H⟩ := if_some H
   refine b_ (bin_rem z13) ?_
   refine on_ (eF c8) (b_ bin_neq ?_)
   refine v_ (Run.pickF rfl rfl (eF c8) rfl) ?_
   refine dn_ hK6 ?_
   clear hK6
   exact by (
   rcases eti_ H with ⟨c14, H⟩ | ⟨c14, H⟩
   · refine wy_ (qT c14) (sr_ fun _ hK69 => ?_)
     refine fast_ ?_
     refine via_ hK69 (WC.ret ?_)
     clear hK69
     obtain ⟨A70, c71, rfl⟩ := row_slice (HS.mu 0 rfl)
     have le72 := row_le (HS.mu 0 rfl)
     replace HS := HS.freezeN 0 (p := (fun W => kS3.C W A70 0 (([] : List (List Int))))) rfl (fun W_ hm_ h_ => row_C (by simp) hm_ h_.1)
     exact by (
     dsimp only [List.eraseIdx] at HS
     obtain ⟨rfl, rfl⟩ := Prod.mk.inj (os H)
     exact fin2 Tryz.f179 rfl rfl rfl hR_ ⟨_, _, rfl, le72, (foot_fresh (HS.footN 0 rfl)), HS.b⟩ )
   refine wn_ (qF c14) (WC.skip (via_ hK5 (sr_ fun _ hK15 => ?_)))
   clear hK5
   refine mv_ ?_
   refine ln_ underlying28 ?_
   refine mv_ ?_
   exact by (
   obtain ⟨z16, H⟩ := if_some H
   refine b_ (bin_quo64 z16) ?_
   refine ad_ hK15 ?_
   clear hK15
   refine WC.seq fun K17 hK17 => ?_
   refine sr_ fun _ hK18 => ?_
   refine ad_ hK18 ?_
   clear hK18
   exact by (
   refine WC.block ?_
   obtain ⟨G19, hG20, oc21, H, Ho22⟩ := open_G H
   let J27 := fun (xs23 : List (List Int)) v24 I25 (i26 : Int) (E_ : Env) (W_ : World) => E_ = [(0, .slice A0 l0.length c0), (1, vi a1), (6, v24), (7, vi (wrap64 (Int.tdiv (l0.length : Int) a1))), (8, vi i26)] ∧ St (fun _ => True) w W_ [rowM w.heap.size 28 1 v24 xs23.length I25] [(cF kI A0 l0)] [(rF kS3 xs23 I25)]
   have X28 : ∀ E_ W_, (∃ xs23 v24 I25 i26, G19 (xs23, i26) = some (r1, r2) ∧ J27 xs23 v24 I25 i26 E_ W_) → ∀ a, Fits a 54 E_ → K17 a W_ := by
     rintro E_ w29 ⟨xs23, v24, I25, i26, H, rfl, HS⟩
     rw [hG20] at H
     (try dsimp only at H)
     refine hK17 _ _ ?_
     exact by (
     clear hK17
     refine sr_ fun _ hK30 => ?_
     refine fast_ ?_
     refine via_ hK30 (WC.ret ?_)
     clear hK30
     obtain ⟨A31, c32, rfl⟩ := row_slice (HS.mu 0 rfl)
     have le33 := row_le (HS.mu 0 rfl)
     replace HS := HS.freezeN 0 (p := (cF kS3 A31 (xs23))) rfl (fun W_ hm_ h_ => row_C (by rfl) hm_ h_.1)
     exact by (
     dsimp only [List.eraseIdx] at HS
     obtain ⟨rfl, rfl⟩ := Prod.mk.inj (os H)
     exact fin2 Tryz.f179 rfl rfl rfl hR_ ⟨_, _, rfl, le33, (foot_fresh (HS.footN 0 rfl)), HS.b⟩ ))
   clear hK17
   refine WC.loop (fun k_ E_ W_ => ∃ xs23 v24 I25 i26, (∃ o_, spec_Heads.l0 l0 a1 k_ xs23 i26 = some o_ ∧ G19 o_ = some (r1, r2)) ∧ J27 xs23 v24 I25 i26 E_ W_) k ⟨([] : List (List Int)), v3, ([]), 0, ⟨_, H, Ho22⟩, rfl, HS⟩ (sb rfl) ?_
   rintro k_ E_ w35 ⟨xs23, v24, I25, i26, ⟨oc21, H, Ho22⟩, rfl, HS⟩
   rcases k_ with _ | k36
   · exact no_ H
   exact by (
   replace H : spec_Heads.b0 l0 a1 (spec_Heads.l0 l0 a1 k36) k36 xs23 i26 = some oc21 := H
   unfold spec_Heads.b0 at H
   refine WC.seq fun _ hK37 => ?_
   refine sr_ fun _ hK38 => ?_
   refine mv_ ?_
   refine mv_ ?_
   refine b_ bin_lss ?_
   refine dn_ hK38 ?_
   exact by (
   clear hK38
   rcases eti_ H with ⟨c39, H⟩ | ⟨c39, H⟩
   · refine wn_ (dF c39) (WC.exit ?_)
     obtain rfl := os H
     exact wv_ iq X28 ⟨xs23, v24, I25, i26, Ho22, rfl, HS⟩
   refine wy_ (dT c39) (WC.skip (via_ hK37 (WC.seq fun _ hK40 => ?_)))
   clear hK37
   refine WC.block (rg_ (mv_ ?_))
   exact by (
   refine WL.lit0 HS rfl rfl (by decide) rfl underlying28 (sz := 1) (by kernel_rfl) (fun v41 w42 HS => ?_)
   replace HS := HS.deriveN (p := (rF kI ([] : List Int) [])) (fun _ _ => Reps.none _ _)
   refine mv_ ?_
   refine mv_ ?_
   refine mv_ ?_
   refine b_ bin_mul64 ?_
   refine mv_ ?_
   refine mv_ ?_
   exact by (
   refine b_ bin_mul64 ?_
   refine mv_ ?_
   refine b_ bin_add64 ?_
   obtain ⟨⟨q43, q44, q45⟩, H⟩ := if_some H
   obtain ⟨A46, c47, he48, le49, hf50⟩ := slc_mid kI A0 c0 l0 (wrap64 (i26 * (wrap64 (Int.tdiv (l0.length : Int) a1)))) (wrap64 ((wrap64 (i26 * (wrap64 (Int.tdiv (l0.length : Int) a1)))) + (wrap64 (Int.tdiv (l0.length : Int) a1)))) q43 q44 q45 hc0
   replace HS := HS.deriveO (p := (cF kI A46 ((l0.take (wrap64 ((wrap64 (i26 * (wrap64 (Int.tdiv (l0.length : Int) a1)))) + (wrap64 (Int.tdiv (l0.length : Int) a1)))).toNat).drop (wrap64 (i26 * (wrap64 (Int.tdiv (l0.length : Int) a1)))).toNat))) (fun W_ hO_ hN_ => hf50 W_ hO_.1)
   refine v_ (Run.eqv he48 (Run.slLH rfl underlying28 (by kernel_rfl) rfl rfl rfl q43 q44 (Int.le_trans q45 (Int.ofNat_le.mpr hc0)))) ?_
   obtain ⟨q51, H⟩ := if_some H
   exact by (
   obtain ⟨L52, hl53, h54, hF55, hc56⟩ := foot_all (HS.footO 0 rfl) (by decide) rfl
   replace HS := HS.addN (p := (rF kI ((l0.take (wrap64 ((wrap64 (i26 * (wrap64 (Int.tdiv (l0.length : Int) a1)))) + (wrap64 (Int.tdiv (l0.length : Int) a1)))).toNat).drop (wrap64 (i26 * (wrap64 (Int.tdiv (l0.length : Int) a1)))).toNat) L52)) (fun W_ _ => hF55.now)
   refine WL.appendL HS 0 rfl rfl rfl (by decide) rfl (vi 0) 8 underlying28 (by kernel_rfl) rfl (by decide) (by decide) rfl rfl L52 hl53 hc56 h54 (by omega) ((([] : List Int) ++ ((l0.take (wrap64 ((wrap64 (i26 * (wrap64 (Int.tdiv (l0.length : Int) a1)))) + (wrap64 (Int.tdiv (l0.length : Int) a1)))).toNat).drop (wrap64 (i26 * (wrap64 (Int.tdiv (l0.length : Int) a1)))).toNat)).length) (by simp <;> omega) (fun v57 w58 I59 hI60 HS => ?_)
   dsimp only [List.set] at HS
   replace HS := HS.deriveN (p := (rF kI (([] : List Int) ++ ((l0.take (wrap64 ((wrap64 (i26 * (wrap64 (Int.tdiv (l0.length : Int) a1)))) + (wrap64 (Int.tdiv (l0.length : Int) a1)))).toNat).drop (wrap64 (i26 * (wrap64 (Int.tdiv (l0.length : Int) a1)))).toNat)) I59)) (fun W_ hN_ => reps_more hI60 hN_.2.1 hN_.1)
   obtain ⟨A61, c62, rfl⟩ := row_slice (HS.mu 0 rfl)
   have le63 := row_le (HS.mu 0 rfl)
   replace HS := HS.freezeN 0 (p := (cF kI A61 ((([] : List Int) ++ ((l0.take (wrap64 ((wrap64 (i26 * (wrap64 (Int.tdiv (l0.length : Int) a1)))) + (wrap64 (Int.tdiv (l0.length : Int) a1)))).toNat).drop (wrap64 (i26 * (wrap64 (Int.tdiv (l0.length : Int) a1)))).toNat))))) rfl (fun W_ hm_ h_ => row_C (by rfl) hm_ h_.1)
   exact by (
   dsimp only [List.eraseIdx] at HS
   refine WL.val rfl rfl (by decide) (Run.lit1 (z := (sn)) (vs := [.slice A61 ((([] : List Int) ++ ((l0.take (wrap64 ((wrap64 (i26 * (wrap64 (Int.tdiv (l0.length : Int) a1)))) + (wrap64 (Int.tdiv (l0.length : Int) a1)))).toNat).drop (wrap64 (i26 * (wrap64 (Int.tdiv (l0.length : Int) a1)))).toNat)).length) c62]) rfl rfl rfl underlying26 (by kernel_rfl) (ble_ rfl) (ble_ rfl)) ?_
   have HS1 := HS.below (below_alloc (Below.refl _ _) (.cells #[.slice A61 ((([] : List Int) ++ ((l0.take (wrap64 ((wrap64 (i26 * (wrap64 (Int.tdiv (l0.length : Int) a1)))) + (wrap64 (Int.tdiv (l0.length : Int) a1)))).toNat).drop (wrap64 (i26 * (wrap64 (Int.tdiv (l0.length : Int) a1)))).toNat)).length) c62] 28))
   obtain ⟨q64, H⟩ := if_some H
   refine WL.append HS1 0 rfl rfl rfl (by decide) rfl (sn) 24 underlying26 (by kernel_rfl) rfl (by decide) (by decide) rfl rfl [.slice A61 ((([] : List Int) ++ ((l0.take (wrap64 ((wrap64 (i26 * (wrap64 (Int.tdiv (l0.length : Int) a1)))) + (wrap64 (Int.tdiv (l0.length : Int) a1)))).toNat).drop (wrap64 (i26 * (wrap64 (Int.tdiv (l0.length : Int) a1)))).toNat)).length) c62] rfl (lit_news _ _ _) (oneL rfl) (by omega) ((xs23 ++ [(([] : List Int) ++ ((l0.take (wrap64 ((wrap64 (i26 * (wrap64 (Int.tdiv (l0.length : Int) a1)))) + (wrap64 (Int.tdiv (l0.length : Int) a1)))).toNat).drop (wrap64 (i26 * (wrap64 (Int.tdiv (l0.length : Int) a1)))).toNat))]).length) (by simp) (fun v65 w66 I67 hI68 HS => ?_)
   dsimp only [List.set] at HS
   replace HS := HS.deriveN (p := (rF kS3 (xs23 ++ [(([] : List Int) ++ ((l0.take (wrap64 ((wrap64 (i26 * (wrap64 (Int.tdiv (l0.length : Int) a1)))) + (wrap64 (Int.tdiv (l0.length : Int) a1)))).toNat).drop (wrap64 (i26 * (wrap64 (Int.tdiv (l0.length : Int) a1)))).toNat))]) I67)) (fun W_ hN_ => reps_snoc hI68 hN_.2.2.2.2.1 (K_slice le63 hN_.1))
   clear HS1
   exact by (
   refine ad_ hK40 ?_
   clear hK40
   refine rg_ (mv_ ?_)
   refine b_ bin_add64 ?_
   refine as_ ?_
   refine WL.done ?_
   exact wr_ k36 iq ⟨(xs23 ++ [(([] : List Int) ++ ((l0.take (wrap64 ((wrap64 (i26 * (wrap64 (Int.tdiv (l0.length : Int) a1)))) + (wrap64 (Int.tdiv (l0.length : Int) a1)))).toNat).drop (wrap64 (i26 * (wrap64 (Int.tdiv (l0.length : Int) a1)))).toNat))]), v65, I67, (wrap64 (i26 + 1)), ⟨_, H, Ho22⟩, rfl, (St.pk HS [1] [0] rfl rfl)⟩ ))))))))))))
 refine on_ (qT c7) (mv_ ?_)
 exact by (
 refine on_ (qT c7) (b_ bin_neq ?_)
 refine v_ (Run.pickT rfl rfl (qT c7) rfl) ?_
 refine mv_ ?_
 rcases eti_ H with ⟨c73, H⟩ | ⟨c73, H⟩
 · refine off_ (c' := true) (qT c73) ?_
   refine WL.know 16 (qT c73) ?_
   refine fast_ ?_
   refine via_ hK6 (wy_ rfl ?_)
   exact by (
   clear hK6
   refine sr_ fun _ hK139 => ?_
   refine fast_ ?_
   refine via_ hK139 (WC.ret ?_)
   clear hK139
   obtain ⟨A140, c141, rfl⟩ := row_slice (HS.mu 0 rfl)
   have le142 := row_le (HS.mu 0 rfl)
   replace HS := HS.freezeN 0 (p := (fun W => kS3.C W A140 0 (([] : List (List Int))))) rfl (fun W_ hm_ h_ => row_C (by simp) hm_ h_.1)
   exact by (
   dsimp only [List.eraseIdx] at HS
   obtain ⟨rfl, rfl⟩ := Prod.mk.inj (os H)
   exact fin2 Tryz.f179 rfl rfl rfl hR_ ⟨_, _, rfl, le142, (foot_fresh (HS.footN 0 rfl)), HS.b⟩ ))
 refine on_ (qF c73) (mv_ ?_)
 refine on_ (qF c73) (ln_ underlying28 ?_)
 refine on_ (qF c73) (b_ bin_eql ?_)
 refine v_ (Run.pickF rfl rfl (qF c73) rfl) ?_
 refine mv_ ?_
 exact by (
 rcases ite_ H with ⟨c74, H⟩ | ⟨c74, H⟩
 · refine off_ (c' := true) (eT c74) ?_
   refine WL.know 21 (eT c74) ?_
   refine fast_ ?_
   refine via_ hK6 (wy_ rfl ?_)
   clear hK6
   refine sr_ fun _ hK75 => ?_
   refine fast_ ?_
   exact by (
   refine via_ hK75 (WC.ret ?_)
   clear hK75
   obtain ⟨A76, c77, rfl⟩ := row_slice (HS.mu 0 rfl)
   have le78 := row_le (HS.mu 0 rfl)
   replace HS := HS.freezeN 0 (p := (fun W => kS3.C W A76 0 (([] : List (List Int))))) rfl (fun W_ hm_ h_ => row_C (by simp) hm_ h_.1)
   dsimp only [List.eraseIdx] at HS
   obtain ⟨rfl, rfl⟩ := Prod.mk.inj (os H)
   exact fin2 Tryz.f179 rfl rfl rfl hR_ ⟨_, _, rfl, le78, (foot_fresh (HS.footN 0 rfl)), HS.b⟩ )
 exact by (
 refine on_ (eF c74) (mv_ ?_)
 refine on_ (eF c74) (ln_ underlying28 ?_)
 refine on_ (eF c74) (mv_ ?_)
 refine on_ (eF c74) ?_
 obtain ⟨z79, H⟩ := if_some H
 refine b_ (bin_rem z79) ?_
 refine on_ (eF c74) (b_ bin_neq ?_)
 refine v_ (Run.pickF rfl rfl (eF c74) rfl) ?_
 exact by (
 refine dn_ hK6 ?_
 clear hK6
 rcases eti_ H with ⟨c80, H⟩ | ⟨c80, H⟩
 · refine wy_ (qT c80) (sr_ fun _ hK135 => ?_)
   refine fast_ ?_
   refine via_ hK135 (WC.ret ?_)
   clear hK135
   obtain ⟨A136, c137, rfl⟩ := row_slice (HS.mu 0 rfl)
   exact by (
   have le138 := row_le (HS.mu 0 rfl)
   replace HS := HS.freezeN 0 (p := (fun W => kS3.C W A136 0 (([] : List (List Int))))) rfl (fun W_ hm_ h_ => row_C (by simp) hm_ h_.1)
   dsimp only [List.eraseIdx] at HS
   obtain ⟨rfl, rfl⟩ := Prod.mk.inj (os H)
   exact fin2 Tryz.f179 rfl rfl rfl hR_ ⟨_, _, rfl, le138, (foot_fresh (HS.footN 0 rfl)), HS.b⟩ )
 refine wn_ (qF c80) (WC.skip (via_ hK5 (sr_ fun _ hK81 => ?_)))
 clear hK5
 refine mv_ ?_
 exact by (
 refine ln_ underlying28 ?_
 refine mv_ ?_
 obtain ⟨z82, H⟩ := if_some H
 refine b_ (bin_quo64 z82) ?_
 refine ad_ hK81 ?_
 clear hK81
 refine WC.seq fun K83 hK83 => ?_
 refine sr_ fun _ hK84 => ?_
 exact by (
 refine ad_ hK84 ?_
 clear hK84
 refine WC.block ?_
 obtain ⟨G85, hG86, oc87, H, Ho88⟩ := open_G H
 let J93 := fun (xs89 : List (List Int)) v90 I91 (i92 : Int) (E_ : Env) (W_ : World) => E_ = [(0, .slice A0 l0.length c0), (1, vi a1), (6, v90), (7, vi (wrap64 (Int.tdiv (l0.length : Int) a1))), (8, vi i92)] ∧ St (fun _ => True) w W_ [rowM w.heap.size 28 1 v90 xs89.length I91] [(cF kI A0 l0)] [(rF kS3 xs89 I91)]
 have X94 : ∀ E_ W_, (∃ xs89 v90 I91 i92, G85 (xs89, i92) = some (r1, r2) ∧ J93 xs89 v90 I91 i92 E_ W_) → ∀ a, Fits a 54 E_ → K83 a W_ := by
   rintro E_ w95 ⟨xs89, v90, I91, i92, H, rfl, HS⟩
   rw [hG86] at H
   exact by (
   (try dsimp only at H)
   refine hK83 _ _ ?_
   clear hK83
   refine sr_ fun _ hK96 => ?_
   refine fast_ ?_
   refine via_ hK96 (WC.ret ?_)
   clear hK96
   obtain ⟨A97, c98, rfl⟩ := row_slice (HS.mu 0 rfl)
   exact by (
   have le99 := row_le (HS.mu 0 rfl)
   replace HS := HS.freezeN 0 (p := (cF kS3 A97 (xs89))) rfl (fun W_ hm_ h_ => row_C (by rfl) hm_ h_.1)
   dsimp only [List.eraseIdx] at HS
   obtain ⟨rfl, rfl⟩ := Prod.mk.inj (os H)
   exact fin2 Tryz.f179 rfl rfl rfl hR_ ⟨_, _, rfl, le99, (foot_fresh (HS.footN 0 rfl)), HS.b⟩ ))
 clear hK83
 refine WC.loop (fun k_ E_ W_ => ∃ xs89 v90 I91 i92, (∃ o_, spec_Heads.l1 l0 a1 k_ xs89 i92 = some o_ ∧ G85 o_ = some (r1, r2)) ∧ J93 xs89 v90 I91 i92 E_ W_) k ⟨([] : List (List Int)), v3, ([]), 0, ⟨_, H, Ho88⟩, rfl, HS⟩ (sb rfl) ?_
 rintro k_ E_ w101 ⟨xs89, v90, I91, i92, ⟨oc87, H, Ho88⟩, rfl, HS⟩
 exact by (
 rcases k_ with _ | k102
 · exact no_ H
 replace H : spec_Heads.b1 l0 a1 (spec_Heads.l1 l0 a1 k102) k102 xs89 i92 = some oc87 := H
 unfold spec_Heads.b1 at H
 refine WC.seq fun _ hK103 => ?_
 refine sr_ fun _ hK104 => ?_
 refine mv_ ?_
 refine mv_ ?_
 exact by (
 refine b_ bin_lss ?_
 refine dn_ hK104 ?_
 clear hK104
 rcases eti_ H with ⟨c105, H⟩ | ⟨c105, H⟩
 · refine wn_ (dF c105) (WC.exit ?_)
   obtain rfl := os H
   exact wv_ iq X94 ⟨xs89, v90, I91, i92, Ho88, rfl, HS⟩
 refine wy_ (dT c105) (WC.skip (via_ hK103 (WC.seq fun _ hK106 => ?_)))
 exact by (
 clear hK103
 refine WC.block (rg_ (mv_ ?_))
 refine WL.lit0 HS rfl rfl (by decide) rfl underlying28 (sz := 1) (by kernel_rfl) (fun v107 w108 HS => ?_)
 replace HS := HS.deriveN (p := (rF kI ([] : List Int) [])) (fun _ _ => Reps.none _ _)
 refine mv_ ?_
 refine mv_ ?_
 refine mv_ ?_
 refine b_ bin_mul64 ?_
 exact by (
 refine mv_ ?_
 refine mv_ ?_
 refine b_ bin_mul64 ?_
 refine mv_ ?_
 refine b_ bin_add64 ?_
 obtain ⟨⟨q109, q110, q111⟩, H⟩ := if_some H
 obtain ⟨A112, c113, he114, le115, hf116⟩ := slc_mid kI A0 c0 l0 (wrap64 (i92 * (wrap64 (Int.tdiv (l0.length : Int) a1)))) (wrap64 ((wrap64 (i92 * (wrap64 (Int.tdiv (l0.length : Int) a1)))) + (wrap64 (Int.tdiv (l0.length : Int) a1)))) q109 q110 q111 hc0
 replace HS := HS.deriveO (p := (cF kI A112 ((l0.take (wrap64 ((wrap64 (i92 * (wrap64 (Int.tdiv (l0.length : Int) a1)))) + (wrap64 (Int.tdiv (l0.length : Int) a1)))).toNat).drop (wrap64 (i92 * (wrap64 (Int.tdiv (l0.length : Int) a1)))).toNat))) (fun W_ hO_ hN_ => hf116 W_ hO_.1)
 exact by (
 refine v_ (Run.eqv he114 (Run.slLH rfl underlying28 (by kernel_rfl) rfl rfl rfl q109 q110 (Int.le_trans q111 (Int.ofNat_le.mpr hc0)))) ?_
 obtain ⟨q117, H⟩ := if_some H
 obtain ⟨L118, hl119, h120, hF121, hc122⟩ := foot_all (HS.footO 0 rfl) (by decide) rfl
 replace HS := HS.addN (p := (rF kI ((l0.take (wrap64 ((wrap64 (i92 * (wrap64 (Int.tdiv (l0.length : Int) a1)))) + (wrap64 (Int.tdiv (l0.length : Int) a1)))).toNat).drop (wrap64 (i92 * (wrap64 (Int.tdiv (l0.length : Int) a1)))).toNat) L118)) (fun W_ _ => hF121.now)
 refine WL.appendL HS 0 rfl rfl rfl (by decide) rfl (vi 0) 8 underlying28 (by kernel_rfl) rfl (by decide) (by decide) rfl rfl L118 hl119 hc122 h120 (by omega) ((([] : List Int) ++ ((l0.take (wrap64 ((wrap64 (i92 * (wrap64 (Int.tdiv (l0.length : Int) a1)))) + (wrap64 (Int.tdiv (l0.length : Int) a1)))).toNat).drop (wrap64 (i92 * (wrap64 (Int.tdiv (l0.length : Int) a1)))).toNat)).length) (by simp <;> omega) (fun v123 w124 I125 hI126 HS => ?_)
 dsimp only [List.set] at HS
 replace HS := HS.deriveN (p := (rF kI (([] : List Int) ++ ((l0.take (wrap64 ((wrap64 (i92 * (wrap64 (Int.tdiv (l0.length : Int) a1)))) + (wrap64 (Int.tdiv (l0.length : Int) a1)))).toNat).drop (wrap64 (i92 * (wrap64 (Int.tdiv (l0.length : Int) a1)))).toNat)) I125)) (fun W_ hN_ => reps_more hI126 hN_.2.1 hN_.1)
 obtain ⟨A127, c128, rfl⟩ := row_slice (HS.mu 0 rfl)
 exact by (
 have le129 := row_le (HS.mu 0 rfl)
 replace HS := HS.freezeN 0 (p := (cF kI A127 ((([] : List Int) ++ ((l0.take (wrap64 ((wrap64 (i92 * (wrap64 (Int.tdiv (l0.length : Int) a1)))) + (wrap64 (Int.tdiv (l0.length : Int) a1)))).toNat).drop (wrap64 (i92 * (wrap64 (Int.tdiv (l0.length : Int) a1)))).toNat))))) rfl (fun W_ hm_ h_ => row_C (by rfl) hm_ h_.1)
 dsimp only [List.eraseIdx] at HS
 refine WL.val rfl rfl (by decide) (Run.lit1 (z := (sn)) (vs := [.slice A127 ((([] : List Int) ++ ((l0.take (wrap64 ((wrap64 (i92 * (wrap64 (Int.tdiv (l0.length : Int) a1)))) + (wrap64 (Int.tdiv (l0.length : Int) a1)))).toNat).drop (wrap64 (i92 * (wrap64 (Int.tdiv (l0.length : Int) a1)))).toNat)).length) c128]) rfl rfl rfl underlying26 (by kernel_rfl) (ble_ rfl) (ble_ rfl)) ?_
 have HS1 := HS.below (below_alloc (Below.refl _ _) (.cells #[.slice A127 ((([] : List Int) ++ ((l0.take (wrap64 ((wrap64 (i92 * (wrap64 (Int.tdiv (l0.length : Int) a1)))) + (wrap64 (Int.tdiv (l0.length : Int) a1)))).toNat).drop (wrap64 (i92 * (wrap64 (Int.tdiv (l0.length : Int) a1)))).toNat)).length) c128] 28))
 obtain ⟨q130, H⟩ := if_some H
 refine WL.append HS1 0 rfl rfl rfl (by decide) rfl (sn) 24 underlying26 (by kernel_rfl) rfl (by decide) (by decide) rfl rfl [.slice A127 ((([] : List Int) ++ ((l0.take (wrap64 ((wrap64 (i92 * (wrap64 (Int.tdiv (l0.length : Int) a1)))) + (wrap64 (Int.tdiv (l0.length : Int) a1)))).toNat).drop (wrap64 (i92 * (wrap64 (Int.tdiv (l0.length : Int) a1)))).toNat)).length) c128] rfl (lit_news _ _ _) (oneL rfl) (by omega) ((xs89 ++ [(([] : List Int) ++ ((l0.take (wrap64 ((wrap64 (i92 * (wrap64 (Int.tdiv (l0.length : Int) a1)))) + (wrap64 (Int.tdiv (l0.length : Int) a1)))).toNat).drop (wrap64 (i92 * (wrap64 (Int.tdiv (l0.length : Int) a1)))).toNat))]).length) (by simp) (fun v131 w132 I133 hI134 HS => ?_)
 dsimp only [List.set] at HS
 exact by (
 replace HS := HS.deriveN (p := (rF kS3 (xs89 ++ [(([] : List Int) ++ ((l0.take (wrap64 ((wrap64 (i92 * (wrap64 (Int.tdiv (l0.length : Int) a1)))) + (wrap64 (Int.tdiv (l0.length : Int) a1)))).toNat).drop (wrap64 (i92 * (wrap64 (Int.tdiv (l0.length : Int) a1)))).toNat))]) I133)) (fun W_ hN_ => reps_snoc hI134 hN_.2.2.2.2.1 (K_slice le129 hN_.1))
 clear HS1
 refine ad_ hK106 ?_
 clear hK106
 refine rg_ (mv_ ?_)
 refine b_ bin_add64 ?_
 refine as_ ?_
 refine WL.done ?_
 exact wr_ k102 iq ⟨(xs89 ++ [(([] : List Int) ++ ((l0.take (wrap64 ((wrap64 (i92 * (wrap64 (Int.tdiv (l0.length : Int) a1)))) + (wrap64 (Int.tdiv (l0.length : Int) a1)))).toNat).drop (wrap64 (i92 * (wrap64 (Int.tdiv (l0.length : Int) a1)))).toNat))]), v131, I133, (wrap64 (i92 + 1)), ⟨_, H, Ho88⟩, rfl, (St.pk HS [1] [0] rfl rfl)⟩ )))))))))))))))
def spec_l14Fits.b0 (l0 : List Int) (a1 : Int) (rec_ : Int → Option (Bool ⊕ Int)) (k15 : Nat) (i8 : Int) : Option (Bool ⊕ Int) := (if i8 < (l0.length : Int) then (if 0 ≤ i8 ∧ i8 < (l0.length : Int) then ((spec_MulShift.f k15 (l0.getD i8.toNat 0) 1 a1).bind fun t24 => ((spec_l01In.f t24 (-15) 15).bind fun t27 => (if t27 = true then (rec_ (wrap64 (i8 + 1))) else (some (Sum.inl false))))) else none) else (some (Sum.inr i8)))
def spec_l14Fits.l0 (l0 : List Int) (a1 : Int) : Nat → Int → Option (Bool ⊕ Int)
 | 0, _ => none
 | k + 1, i8 => spec_l14Fits.b0 l0 a1 (spec_l14Fits.l0 l0 a1 k) k i8
def spec_l14Fits.g (k : Nat) (l0 : List Int) (a1 : Int) : Option Bool := ((spec_l14Fits.l0 l0 a1 k 0).bind (fun oc13 => match oc13 with | .inl r_ => some r_ | .inr i8 => (some true)))
theorem spec_l14Fits.runs (k : Nat) (A0 : Option Addr) (c0 : Nat) (l0 : List Int) (a1 : Int) (r : Bool) (w : World) (hr0 : kI.C w A0 l0.length l0) (hc0 : l0.length ≤ c0) (H : spec_l14Fits.g k l0 a1 = some r) :
   Calls prog 239 #[.slice A0 l0.length c0, vi a1] w fun e w' => e = .returned (.bool r) ∧ Below w.heap.size w w' := by
 unfold spec_l14Fits.g at H
 have HS : St (fun _ => True) w w [] [(cF kI A0 l0)] [] := St.start (foot_cons (foot_C (Kd.heap_int _) hr0) foot_nil)
 refine cw_ (n := 20) func239 fun R_ hR_ => ?_
 refine sr_ fun _ hK1 => ?_
 refine ad_ hK1 ?_
 refine WC.seq fun K2 hK2 => ?_
 refine sr_ fun _ hK3 => ?_
 refine ad_ hK3 ?_
 refine WC.block ?_
 obtain ⟨G4, hG5, oc6, H, Ho7⟩ := open_G H
 let J9 := fun (i8 : Int) (E_ : Env) (W_ : World) => E_ = [(0, .slice A0 l0.length c0), (1, vi a1), (5, vi i8)] ∧ St (fun _ => True) w W_ [] [(cF kI A0 l0)] []
 have X10 : ∀ E_ W_, (∃ i8, G4 (Sum.inr i8) = some r ∧ J9 i8 E_ W_) → ∀ a, Fits a 20 E_ → K2 a W_ := by
   rintro E_ w11 ⟨i8, H, rfl, HS⟩
   rw [hG5] at H
   (try dsimp only at H)
   refine hK2 _ _ ?_
   refine sr_ fun _ hK12 => ?_
   refine ad_ hK12 ?_
   obtain rfl := os H
   exact rt1 Tryz.f239 rfl rfl hR_ ⟨rfl, HS.b⟩
 clear hK2
 refine WC.loop (fun k_ E_ W_ => ∃ i8, (∃ o_, spec_l14Fits.l0 l0 a1 k_ i8 = some o_ ∧ G4 o_ = some r) ∧ J9 i8 E_ W_) k ⟨0, ⟨_, H, Ho7⟩, rfl, HS⟩ (sb rfl) ?_
 rintro k_ E_ w14 ⟨i8, ⟨oc6, H, Ho7⟩, rfl, HS⟩
 rcases k_ with _ | k15
 · exact no_ H
 replace H : spec_l14Fits.b0 l0 a1 (spec_l14Fits.l0 l0 a1 k15) k15 i8 = some oc6 := H
 unfold spec_l14Fits.b0 at H
 refine WC.seq fun _ hK16 => ?_
 refine sr_ fun _ hK17 => ?_
 refine mv_ ?_
 refine mv_ ?_
 refine ln_ underlying28 ?_
 refine b_ bin_lss ?_
 refine dn_ hK17 ?_
 rcases eti_ H with ⟨c18, H⟩ | ⟨c18, H⟩
 · refine wn_ (dF c18) (WC.exit ?_)
   obtain rfl := os H
   exact wv_ iq X10 ⟨i8, Ho7, rfl, HS⟩
 refine wy_ (dT c18) (WC.skip (via_ hK16 (WC.seq fun _ hK19 => ?_)))
 refine WC.block (sr_ fun _ hK20 => ?_)
 refine mv_ ?_
 refine mv_ ?_
 obtain ⟨⟨q21, q22⟩, H⟩ := if_some H
 obtain ⟨ad23, rfl⟩ := C_open (HS.getO 0 rfl) (lenpos q21 q22)
 refine v_ (ia_ underlying28 1 q21 q22) ?_
 refine v_ (Run.load rfl rfl underlying3 rfl (int_cell (HS.getO 0 rfl) i8 q21 q22)) ?_
 refine mv_ ?_
 obtain ⟨t24, ha25, H⟩ := bind_some H
 refine cs0_ HS func237 (spec_MulShift.calls k15 (l0.getD i8.toNat 0) 1 a1 t24 _ ha25) (fun w26 HS => ?_)
 clear ha25
 obtain ⟨t27, ha28, H⟩ := bind_some H
 refine cs0_ HS func96 (spec_l01In.calls t24 (-15) 15 t27 _ ha28) (fun w29 HS => ?_)
 clear ha28
 refine nt_ ?_
 refine dn_ hK20 ?_
 rcases ite_ H with ⟨c30, H⟩ | ⟨c30, H⟩
 · refine wn_ (nB c30) (WC.skip (via_ hK19 (rg_ (mv_ ?_))))
   refine b_ bin_add64 ?_
   refine as_ ?_
   refine WL.done ?_
   exact wr_ k15 iq ⟨(wrap64 (i8 + 1)), ⟨_, H, Ho7⟩, rfl, HS⟩
 refine wy_ (nB (bF c30)) (sr_ fun _ hK31 => ?_)
 refine ad_ hK31 ?_
 refine WC.ret ?_
 obtain rfl := os H
 rw [hG5] at Ho7
 replace H : some _ = some _ := Ho7
 obtain rfl := os H
 exact fin1 Tryz.f239 rfl rfl hR_ ⟨rfl, HS.b⟩
def spec_CutDown.b1 (l0 : List Int) (rec_ : Int → Option Int) (k74 : Nat) (i20 : Int) : Option Int := (if i20 < 4 then ((spec_l14Fits.g k74 l0 i20).bind fun t78 => (if t78 = true then (some i20) else (rec_ (wrap64 (i20 + 1))))) else (some i20))
def spec_CutDown.l1 (l0 : List Int) : Nat → Int → Option Int
 | 0, _ => none
 | k + 1, i20 => spec_CutDown.b1 l0 (spec_CutDown.l1 l0 k) k i20
def spec_CutDown.b0 (l0 : List Int) (i20 : Int) (rec_ : Int → (List Int) → Option (Int × (List Int))) (k47 : Nat) (i34 : Int) (xs35 : List Int) : Option (Int × (List Int)) := (if i34 < (l0.length : Int) then (if 0 ≤ i34 ∧ i34 < (l0.length : Int) then ((spec_MulShift.f k47 (l0.getD i34.toNat 0) 1 i20).bind fun t58 => ((spec_l03Clamp.f t58 15).bind fun t61 => (if (xs35.length) < 4294967296 then (rec_ (wrap64 (i34 + 1)) (xs35 ++ [t61])) else none))) else none) else (some (i34, xs35)))
def spec_CutDown.l0 (l0 : List Int) (i20 : Int) : Nat → Int → (List Int) → Option (Int × (List Int))
 | 0, _, _ => none
 | k + 1, i34, xs35 => spec_CutDown.b0 l0 i20 (spec_CutDown.l0 l0 i20 k) k i34 xs35
def spec_CutDown.g (k : Nat) (l0 : List Int) : Option (S67 × Bool) := ((spec_l01In.f (l0.length : Int) 1 8).bind fun t6 => (if t6 = true then ((spec_l05All.g k l0 (-127) 127).bind fun t10 => (if t10 = true then ((spec_CutDown.l1 l0 k 0).bind (fun oc72 => ((spec_CutDown.l0 l0 oc72 k 0 ([] : List Int)).bind (fun oc45 => (some ((⟨oc72, oc45.2⟩ : S67), true)))))) else (some ((⟨0, []⟩ : S67), false)))) else (some ((⟨0, []⟩ : S67), false))))
theorem spec_CutDown.runs (k : Nat) (A0 : Option Addr) (c0 : Nat) (l0 : List Int) (r1 : S67) (r2 : Bool) (w : World) (hr0 : kI.C w A0 l0.length l0) (hc0 : l0.length ≤ c0) (H : spec_CutDown.g k l0 = some (r1, r2)) :
   Calls prog 180 #[.slice A0 l0.length c0] w fun e w' => ∃ (v0_1_ : Value) (bl0_1_ : List Nat), e = .returned (.tuple #[.agg #[vi r1.f0, v0_1_], .bool r2]) ∧ Owns w' w.heap.size [valM (Dk.slice 3 (Dk.int .i64)) r1.f1 [v0_1_] bl0_1_] ∧ Below w.heap.size w w' := by
 unfold spec_CutDown.g at H
 have HS : St (fun _ => True) w w [] [(cF kI A0 l0)] [] := St.start (foot_cons (foot_C (Kd.heap_int _) hr0) foot_nil)
 refine cw_ (n := 48) func180 fun R_ hR_ => ?_
 refine sr_ fun _ hK1 => ?_
 refine WL.alloc HS (v := .agg #[vi 0, sn]) (cs := #[vi 0, sn]) rfl rfl (by decide) rfl (by kernel_rfl) rfl (fun b2 w3 hb2 HS => ?_)
 refine ad_ hK1 ?_
 refine WC.seq fun _ hK4 => ?_
 refine sr_ fun _ hK5 => ?_
 refine mv_ ?_
 refine ln_ underlying28 ?_
 obtain ⟨t6, ha7, H⟩ := bind_some H
 refine cs0_ HS func96 (spec_l01In.calls (l0.length : Int) 1 8 t6 _ ha7) (fun w8 HS => ?_)
 clear ha7
 refine nt_ ?_
 refine mv_ ?_
 rcases eti_ H with ⟨c9, H⟩ | ⟨c9, H⟩
 · refine off_ (c' := true) (nB (bF c9)) ?_
   refine WL.know 11 (nB (bF c9)) ?_
   refine fast_ ?_
   refine via_ hK5 (wy_ rfl ?_)
   refine sr_ fun _ hK84 => ?_
   refine v_ (Run.build (cells := #[vi 0, sn]) rfl [] trivial (by kernel_rfl)) ?_
   refine WL.storeW HS 0 rfl rfl rfl rfl rfl rfl (oneL rfl) (by kernel_rfl) rfl (fun w85 HS => ?_)
   dsimp only [List.set] at HS
   refine ad_ hK84 ?_
   refine WC.ret ?_
   replace HS := HS.nilV (α := Int) 3 (Dk.int .i64)
   obtain ⟨rfl, rfl⟩ := Prod.mk.inj (os H)
   exact fin2 Tryz.f180 rfl ⟨_, rfl, resv_box (HS.mu 1 rfl) underlying67 rfl (by kernel_rfl)⟩ rfl hR_ ⟨_, _, rfl, (St.owns (St.forget HS 1 rfl)), HS.b⟩
 refine on_ (nB c9) (mv_ ?_)
 refine on_ (nB c9) ?_
 obtain ⟨t10, ha11, H⟩ := bind_some H
 refine cs_ HS func170 (spec_l05All.runs k A0 c0 l0 (-127) 127 t10 _ (HS.getO 0 rfl) hc0 ha11) (fun w12 HS => ?_)
 clear ha11
 refine on_ (nB c9) (nt_ ?_)
 refine v_ (Run.pickF rfl rfl (nB c9) rfl) ?_
 refine dn_ hK5 ?_
 rcases eti_ H with ⟨c13, H⟩ | ⟨c13, H⟩
 · refine wy_ (nB (bF c13)) (sr_ fun _ hK82 => ?_)
   refine v_ (Run.build (cells := #[vi 0, sn]) rfl [] trivial (by kernel_rfl)) ?_
   refine WL.storeW HS 0 rfl rfl rfl rfl rfl rfl (oneL rfl) (by kernel_rfl) rfl (fun w83 HS => ?_)
   dsimp only [List.set] at HS
   refine ad_ hK82 ?_
   refine WC.ret ?_
   replace HS := HS.nilV (α := Int) 3 (Dk.int .i64)
   obtain ⟨rfl, rfl⟩ := Prod.mk.inj (os H)
   exact fin2 Tryz.f180 rfl ⟨_, rfl, resv_box (HS.mu 1 rfl) underlying67 rfl (by kernel_rfl)⟩ rfl hR_ ⟨_, _, rfl, (St.owns (St.forget HS 1 rfl)), HS.b⟩
 refine wn_ (nB c13) (WC.skip (via_ hK4 (sr_ fun _ hK14 => ?_)))
 refine ad_ hK14 ?_
 refine WC.seq fun K15 hK15 => ?_
 refine WC.block ?_
 obtain ⟨G16, hG17, oc18, H, Ho19⟩ := open_G H
 let J21 := fun (i20 : Int) (E_ : Env) (W_ : World) => E_ = [(0, .slice A0 l0.length c0), (2, .pointer (some ⟨b2, 0, none⟩)), (4, vi i20)] ∧ St (fun _ => True) w W_ [boxM b2 #[vi 0, sn] 67] [(cF kI A0 l0)] []
 have X22 : ∀ E_ W_, (∃ i20, G16 i20 = some (r1, r2) ∧ J21 i20 E_ W_) → ∀ a, Fits a 48 E_ → K15 a W_ := by
   rintro E_ w23 ⟨i20, H, rfl, HS⟩
   rw [hG17] at H
   (try dsimp only at H)
   refine hK15 _ _ ?_
   refine sr_ fun _ hK24 => ?_
   refine mv_ ?_
   refine v_ (Run.build (cells := #[vi i20, sn]) rfl [(0, vi i20)] ⟨⟨rfl, rfl⟩, trivial⟩ (by kernel_rfl)) ?_
   refine WL.alloc HS (v := .agg #[vi 0, sn]) (cs := #[vi 0, sn]) rfl rfl (by decide) rfl (by kernel_rfl) rfl (fun b25 w26 hb25 HS => ?_)
   refine WL.storeW HS 0 rfl rfl rfl rfl rfl rfl (oneL rfl) (by kernel_rfl) rfl (fun w27 HS => ?_)
   dsimp only [List.set] at HS
   refine dn_ hK24 (WC.seq fun K28 hK28 => ?_)
   refine sr_ fun _ hK29 => ?_
   refine ad_ hK29 ?_
   refine WC.block ?_
   replace HS := HS.rowNil 3 1
   replace HS := HS.deriveN (p := (rF kI ([] : List Int) [])) (fun _ _ => Reps.none _ _)
   obtain ⟨G30, hG31, oc32, H, Ho33⟩ := open_G H
   let J38 := fun (i34 : Int) (xs35 : List Int) v36 I37 (E_ : Env) (W_ : World) => E_ = [(0, .slice A0 l0.length c0), (2, .pointer (some ⟨b2, 0, none⟩)), (4, vi i20), (5, .pointer (some ⟨b25, 0, none⟩)), (6, vi i34)] ∧ St (fun _ => True) w W_ [rowM w.heap.size 3 1 v36 xs35.length I37, boxM b25 #[vi i20, v36] 67, boxM b2 #[vi 0, sn] 67] [(cF kI A0 l0)] [(rF kI xs35 I37)]
   have X39 : ∀ E_ W_, (∃ i34 xs35 v36 I37, G30 (i34, xs35) = some (r1, r2) ∧ J38 i34 xs35 v36 I37 E_ W_) → ∀ a, Fits a 48 E_ → K28 a W_ := by
     rintro E_ w40 ⟨i34, xs35, v36, I37, H, rfl, HS⟩
     rw [hG31] at H
     (try dsimp only at H)
     refine hK28 _ _ ?_
     refine sr_ fun _ hK41 => ?_
     obtain ⟨A42, c43, rfl⟩ := row_slice (HS.mu 0 rfl)
     refine v_ (ls_ (HS.mu 1 rfl) underlying67 part_all) ?_
     refine WL.storeW HS 2 rfl rfl rfl rfl rfl rfl (oneL rfl) (by kernel_rfl) rfl (fun w44 HS => ?_)
     dsimp only [List.set] at HS
     refine ad_ hK41 ?_
     refine WC.ret ?_
     replace HS := HS.elsF (xs := xs35) (inner := I37) (Dk.int .i64) (fun _ _ _ h_ => ⟨h_, rfl⟩) (fun _ => (HS.getN 0 rfl))
     replace HS := HS.front 1 rfl
     dsimp only [List.eraseIdx] at HS
     replace HS := HS.seal rfl rfl
     obtain ⟨rfl, rfl⟩ := Prod.mk.inj (os H)
     exact fin2 Tryz.f180 rfl ⟨_, rfl, resv_box (HS.mu 2 rfl) underlying67 rfl (by kernel_rfl)⟩ rfl hR_ ⟨_, _, rfl, (St.owns (St.forget (St.forget HS 2 rfl) 1 rfl)), HS.b⟩
   clear hK28
   refine WC.loop (fun k_ E_ W_ => ∃ i34 xs35 v36 I37, (∃ o_, spec_CutDown.l0 l0 i20 k_ i34 xs35 = some o_ ∧ G30 o_ = some (r1, r2)) ∧ J38 i34 xs35 v36 I37 E_ W_) k ⟨0, ([] : List Int), (sn), ([]), ⟨_, H, Ho33⟩, rfl, HS⟩ (sb rfl) ?_
   rintro k_ E_ w46 ⟨i34, xs35, v36, I37, ⟨oc32, H, Ho33⟩, rfl, HS⟩
   rcases k_ with _ | k47
   · exact no_ H
   replace H : spec_CutDown.b0 l0 i20 (spec_CutDown.l0 l0 i20 k47) k47 i34 xs35 = some oc32 := H
   unfold spec_CutDown.b0 at H
   refine WC.seq fun _ hK48 => ?_
   refine sr_ fun _ hK49 => ?_
   refine mv_ ?_
   refine mv_ ?_
   refine ln_ underlying28 ?_
   refine b_ bin_lss ?_
   refine dn_ hK49 ?_
   rcases eti_ H with ⟨c50, H⟩ | ⟨c50, H⟩
   · refine wn_ (dF c50) (WC.exit ?_)
     obtain rfl := os H
     exact wv_ iq X39 ⟨i34, xs35, v36, I37, Ho33, rfl, HS⟩
   refine wy_ (dT c50) (WC.skip (via_ hK48 (WC.seq fun _ hK51 => ?_)))
   refine WC.block (WC.drawW HS [boxM b25 #[vi i20, v36] 67, boxM b2 #[vi 0, sn] 67] (fun _ HS => ⟨(HS.mu 1 rfl), (HS.mu 2 rfl), trivial⟩) [12] rfl rfl (fun w52 HS => ?_))
   refine df_ 0 underlying67 ?_
   refine dm_ 2 ?_
   refine dm_ 3 ?_
   obtain ⟨⟨q53, q54⟩, H⟩ := if_some H
   obtain ⟨ad55, rfl⟩ := C_open (HS.getO 0 rfl) (lenpos q53 q54)
   refine di_ 4 underlying28 1 q53 q54 ?_
   refine dm_ 6 ?_
   obtain ⟨A56, c57, rfl⟩ := row_slice (HS.mu 0 rfl)
   refine dt_ 1 ⟨HS.nowO, HS.nowN, ⟨(HS.mu 1 rfl), (HS.mu 2 rfl), trivial⟩⟩ (fun w_ hw_ => Run.load rfl rfl underlying28 rfl (box_cell hw_.2.2.1 rfl)) ?_
   refine dt_ 5 ⟨HS.nowO, HS.nowN, ⟨(HS.mu 1 rfl), (HS.mu 2 rfl), trivial⟩⟩ (fun w_ hw_ => Run.load rfl rfl underlying3 rfl (int_cell (AllF.get 0 rfl hw_.1) i34 q53 q54)) ?_
   obtain ⟨t58, ha59, H⟩ := bind_some H
   refine dc_ 7 (w_none rfl) func237 (spec_MulShift.calls k47 (l0.getD i34.toNat 0) 1 i20 t58 _ ha59) ?_
   clear ha59
   rintro _ w60 ⟨rfl, hb⟩
   have hb := hb.below
   replace HS := HS.below hb
   refine ⟨⟨HS.nowO, HS.nowN, ⟨(HS.mu 1 rfl), (HS.mu 2 rfl), trivial⟩⟩, _, rfl, ?_⟩
   clear hb
   obtain ⟨t61, ha62, H⟩ := bind_some H
   refine dc_ 8 (w_none rfl) func201 (spec_l03Clamp.calls t58 15 t61 _ ha62) ?_
   clear ha62
   rintro _ w63 ⟨rfl, hb⟩
   have hb := hb.below
   replace HS := HS.below hb
   refine ⟨⟨HS.nowO, HS.nowN, ⟨(HS.mu 1 rfl), (HS.mu 2 rfl), trivial⟩⟩, _, rfl, ?_⟩
   clear hb
   have HS1 := HS.below (below_alloc (Below.refl _ _) (.cells #[vi t61] 3))
   refine dv_ 9 (w_none rfl) (Run.lit1 (z := (vi 0)) (vs := [vi t61]) rfl rfl rfl underlying28 (by kernel_rfl) (ble_ rfl) (ble_ rfl)) ⟨HS1.nowO, HS1.nowN, ⟨(HS1.mu 1 rfl), (HS1.mu 2 rfl), trivial⟩⟩ ?_
   obtain ⟨q64, H⟩ := if_some H
   refine WD.append 10 (w_none rfl) HS1 0 rfl rfl (vi 0) 8 underlying28 (by kernel_rfl) rfl (by decide) (by decide) rfl rfl [vi t61] rfl (lit_news _ _ _) (oneL rfl) (by omega) ((xs35 ++ [t61]).length) (by simp) (fun v65 w66 I67 hI68 HS => ?_)
   dsimp only [List.set] at HS
   replace HS := HS.deriveN (p := (rF kI (xs35 ++ [t61]) I67)) (fun W_ hN_ => reps_snoc hI68 hN_.1 (K_int _))
   clear HS1
   refine ⟨⟨HS.nowO, HS.nowN.2, ⟨(HS.mu 1 rfl), (HS.mu 2 rfl), trivial⟩⟩, ?_⟩
   refine df_ 11 underlying67 ?_
   obtain ⟨A70, c71, rfl⟩ := row_slice (HS.mu 0 rfl)
   refine WD.storeL 12 HS 1 rfl rfl rfl rfl rfl (by kernel_rfl) (ble_ rfl) (cs' := #[vi i20, (.slice A70 ((xs35 ++ [t61]).length) c71)]) (by kernel_rfl) (fun w69 HS => ?_)
   dsimp only [List.set] at HS
   refine dd_ (via_ hK51 (rg_ (mv_ ?_)))
   refine b_ bin_add64 ?_
   refine as_ ?_
   refine WL.done ?_
   exact wr_ k47 iq ⟨(wrap64 (i34 + 1)), (xs35 ++ [t61]), (.slice A70 ((xs35 ++ [t61]).length) c71), I67, ⟨_, H, Ho33⟩, rfl, (St.pk HS [0] [0] rfl rfl)⟩
 clear hK15
 refine WC.loop (fun k_ E_ W_ => ∃ i20, (∃ o_, spec_CutDown.l1 l0 k_ i20 = some o_ ∧ G16 o_ = some (r1, r2)) ∧ J21 i20 E_ W_) k ⟨0, ⟨_, H, Ho19⟩, rfl, HS⟩ (sb rfl) ?_
 rintro k_ E_ w73 ⟨i20, ⟨oc18, H, Ho19⟩, rfl, HS⟩
 rcases k_ with _ | k74
 · exact no_ H
 replace H : spec_CutDown.b1 l0 (spec_CutDown.l1 l0 k74) k74 i20 = some oc18 := H
 unfold spec_CutDown.b1 at H
 refine WC.seq fun _ hK75 => ?_
 refine sr_ fun _ hK76 => ?_
 refine mv_ ?_
 refine b_ bin_lss ?_
 refine mv_ ?_
 rcases eti_ H with ⟨c77, H⟩ | ⟨c77, H⟩
 · refine off_ (c' := false) (dF c77) ?_
   refine WL.know 19 (dF c77) ?_
   refine fast_ ?_
   refine via_ hK76 (wn_ rfl ?_)
   refine WC.exit ?_
   obtain rfl := os H
   exact wv_ iq X22 ⟨i20, Ho19, rfl, HS⟩
 refine on_ (dT c77) (mv_ ?_)
 refine on_ (dT c77) (mv_ ?_)
 refine on_ (dT c77) ?_
 obtain ⟨t78, ha79, H⟩ := bind_some H
 refine cs_ HS func239 (spec_l14Fits.runs k74 A0 c0 l0 i20 t78 _ (HS.getO 0 rfl) hc0 ha79) (fun w80 HS => ?_)
 clear ha79
 refine on_ (dT c77) (nt_ ?_)
 refine v_ (Run.pickT rfl rfl (dT c77) rfl) ?_
 refine dn_ hK76 ?_
 rcases ite_ H with ⟨c81, H⟩ | ⟨c81, H⟩
 · refine wn_ (nB c81) (WC.exit ?_)
   obtain rfl := os H
   exact wv_ iq X22 ⟨i20, Ho19, rfl, HS⟩
 refine wy_ (nB (bF c81)) (WC.skip (via_ hK75 (WC.block (rg_ (mv_ ?_)))))
 refine b_ bin_add64 ?_
 refine as_ ?_
 refine WL.done ?_
 exact wr_ k74 iq ⟨(wrap64 (i20 + 1)), ⟨_, H, Ho19⟩, rfl, HS⟩
def spec_l17KeyValue.b0 (x0 : S34) (t91 : (List (List Int)) × Bool) (t99 : (List (List Int)) × Bool) (rec_ : (List S67) → (List S67) → Int → Option ((List S67) × (List S67) × Int)) (k137 : Nat) (xs118 : List S67) (xs121 : List S67) (i124 : Int) : Option ((List S67) × (List S67) × Int) := (if i124 < x0.f1 then (if 0 ≤ i124 ∧ i124 < (t91.1.length : Int) then ((spec_CutDown.g k137 (t91.1.getD i124.toNat [])).bind fun t149 => (if 0 ≤ i124 ∧ i124 < (t99.1.length : Int) then ((spec_CutDown.g k137 (t99.1.getD i124.toNat [])).bind fun t168 => (if (xs118.length) < 4294967296 then (if (xs121.length) < 4294967296 then (rec_ (xs118 ++ [(⟨t149.1.f0, t149.1.f1⟩ : S67)]) (xs121 ++ [(⟨t168.1.f0, t168.1.f1⟩ : S67)]) (wrap64 (i124 + 1))) else none) else none)) else none)) else none) else (some (xs118, xs121, i124)))
def spec_l17KeyValue.l0 (x0 : S34) (t91 : (List (List Int)) × Bool) (t99 : (List (List Int)) × Bool) : Nat → (List S67) → (List S67) → Int → Option ((List S67) × (List S67) × Int)
 | 0, _, _, _ => none
 | k + 1, xs118, xs121, i124 => spec_l17KeyValue.b0 x0 t91 t99 (spec_l17KeyValue.l0 x0 t91 t99 k) k xs118 xs121 i124
def spec_l17KeyValue.g (k : Nat) (x0 : S34) (a1 : Int) (a2 : Int) (l3 : List Int) (x4 : S148) : Option ((List S67) × (List S67) × Bool × S148) := (if 0 ≤ a1 ∧ a1 < (x0.f5.length : Int) then ((spec_Norm.g k l3 ((x0.f5.getD a1.toNat o118).f0)).bind fun t22 => (if t22.2 = true then ((spec_l17Sums.g k (⟨x4.f0, x4.f1⟩ : S148) ((x0.f5.getD a1.toNat o118).f2) t22.1).bind fun t41 => ((spec_l17Sums.g k (⟨t41.f0, t41.f1⟩ : S148) ((x0.f5.getD a1.toNat o118).f3) t22.1).bind fun t53 => ((spec_Apply.g k ((x0.f5.getD a1.toNat o118).f2) t22.1).bind fun t57 => ((spec_Apply.g k ((x0.f5.getD a1.toNat o118).f3) t22.1).bind fun t65 => (if x0.f1 ≠ 0 then ((spec_TurnAll.g k x0.f8 a2 (wrap64 (Int.tdiv x0.f0 x0.f1)) t57.1).bind fun t83 => ((spec_Heads.g k t83.1 x0.f1).bind fun t91 => ((spec_Heads.g k t65.1 x0.f1).bind fun t99 => ((spec_l17KeyValue.l0 x0 t91 t99 k ([] : List S67) ([] : List S67) 0).bind (fun oc135 => (some (oc135.1, oc135.2.1, true, (⟨t53.f0, t53.f1⟩ : S148)))))))) else none))))) else (some (([] : List S67), ([] : List S67), false, (⟨x4.f0, x4.f1⟩ : S148))))) else none)
theorem spec_l17KeyValue.runs (k : Nat) (cs0 : List Value) (x0 : S34) (a1 : Int) (a2 : Int) (A3 : Option Addr) (c3 : Nat) (l3 : List Int) (b4 : Nat) (x4 : S148) (bs_ : List Nat) (r1 : List S67) (r2 : List S67) (r3 : Bool) (y_ : S148) (w0 w : World) (hB_ : Below w0.heap.size w0 w) (hn_ : (b4 :: bs_).Nodup) (hl_ : ∀ k, k ∈ b4 :: bs_ → w0.heap.size ≤ k ∧ k < w.heap.size) (hk0 : Foot (kF k34 x0 cs0) w (fun k_ => k_ ∉ b4 :: bs_)) (hr3 : Foot (cF kI A3 l3) w (fun k_ => k_ ∉ b4 :: bs_)) (hc3 : l3.length ≤ c3) (hb4 : w.heap[b4]? = some (.cells #[vi x4.f0, vi x4.f1] 148 (0, 0))) (H : spec_l17KeyValue.g k x0 a1 a2 l3 x4 = some (r1, r2, r3, y_)) :
   Calls prog 97 #[.agg cs0.toArray, vi a1, vi a2, .slice A3 l3.length c3, .pointer (some ⟨b4, 0, none⟩)] w fun e w' => ∃ (A0_ : Option Addr) (c0_ : Nat) (A1_ : Option Addr) (c1_ : Nat), e = .returned (.tuple #[.slice A0_ r1.length c0_, .slice A1_ r2.length c1_, .bool r3]) ∧ r1.length ≤ c0_ ∧ Foot (cF k67 A0_ r1) w' (fun k_ => w0.heap.size ≤ k_ ∧ k_ ∉ b4 :: bs_) ∧ r2.length ≤ c1_ ∧ Foot (cF k67 A1_ r2) w' (fun k_ => w0.heap.size ≤ k_ ∧ k_ ∉ b4 :: bs_) ∧ w'.heap[b4]? = some (.cells #[vi y_.f0, vi y_.f1] 148 (0, 0)) ∧ RestOf w w' b4 ∧ Below w0.heap.size w0 w' := by
 have el0 : cs0.length = 14 := k34.K_len hk0.now
 unfold spec_l17KeyValue.g at H
 have HS : St (fun _ => True) w0 w [boxM b4 #[vi x4.f0, vi x4.f1] 148, keepM w bs_] [(frameF w b4 bs_), (kF k34 x0 cs0), (cF kI A3 l3)] [] := St.startM hB_ hn_ hl_ hb4 (foot_cons hk0 (foot_cons hr3 foot_nil))
 refine cw_ (n := 132) func97 fun R_ hR_ => ?_
 refine sr_ fun _ hK1 => ?_
 refine bo_ HS (fun b2 w3 hb2 HS => ?_)
 refine fast_ ?_
 refine via_ hK1 (sr_ fun _ hK4 => ?_)
 exact by (
 clear hK1
 refine v_ (fa_ underlying34) ?_
 obtain ⟨A5, c6, hc7, le8, HS⟩ := HS.sO 1 rfl at34_5
 refine v_ (lb_ (HS.mu 0 rfl) underlying27 hc7) ?_
 refine mv_ ?_
 obtain ⟨⟨q9, q10⟩, H⟩ := if_some H
 obtain ⟨ad11, rfl⟩ := C_open (HS.getO 0 rfl) (lenpos q9 q10)
 refine v_ (ia_ underlying27 32 q9 q10) ?_
 exact by (
 obtain ⟨e12, el13, HS⟩ := HS.elO 0 rfl (by decide) o118 a1 q9 q10
 replace HS := HS.deriveO (p := (kF k118 (x0.f5.getD a1.toNat o118) e12)) (fun W_ hO_ hN_ => hO_.1.1)
 refine v_ (Run.loadS (cs := e12) rfl rfl underlying118 rfl (by rw [el13]; kernel_rfl) (HS.getO 1 rfl).2) ?_
 refine WL.alloc HS (v := .agg zz1) (cs := zz1) rfl rfl (by decide) rfl (by kernel_rfl) rfl (fun b14 w15 hb14 HS => ?_)
 refine WL.storeS HS 0 rfl rfl rfl rfl rfl rfl (Kd.K_one _ (HS.getO 0 rfl)) (by rw [el13]; kernel_rfl) (by rw [el13]; decide) (splice_all (by rw [el13]; rfl)) (fun w16 HS => ?_)
 dsimp only [List.set] at HS
 refine dn_ hK4 (sr_ fun _ hK17 => ?_)
 clear hK4
 exact by (
 refine mv_ ?_
 refine v_ (fa_ underlying118) ?_
 obtain ⟨A18, c19, hc20, le21, HS⟩ := HS.sO 0 rfl at118_0
 refine v_ (lb_ (HS.mu 0 rfl) underlying28 hc20) ?_
 obtain ⟨t22, ha23, H⟩ := bind_some H
 refine c_ func175 (spec_Norm.runs k A3 c3 l3 A18 c19 ((x0.f5.getD a1.toNat o118).f0) t22.1 t22.2 _ (HS.getO 6 rfl) hc3 (HS.getO 0 rfl) le21 ha23) ?_
 clear ha23
 rintro _ w24 ⟨A25, c26, rfl, le27, hf28, hb⟩
 exact by (
 replace HS := HS.newNs hb (foot_cons hf28 foot_nil)
 refine ⟨_, rfl, ?_⟩
 clear hb
 refine mv_ ?_
 refine v_ (Run.extract rfl rfl rfl) ?_
 refine v_ (Run.extract rfl rfl rfl) ?_
 refine as_ ?_
 refine ad_ hK17 ?_
 exact by (
 clear hK17
 refine WC.seq fun _ hK29 => ?_
 refine sr_ fun _ hK30 => ?_
 refine mv_ ?_
 refine nt_ ?_
 refine dn_ hK30 ?_
 clear hK30
 rcases eti_ H with ⟨c31, H⟩ | ⟨c31, H⟩
 · refine wy_ (nB (bF c31)) (sr_ fun _ hK193 => ?_)
   exact by (
   refine WL.lit0 HS rfl rfl (by decide) rfl underlying49 (sz := 2) (by kernel_rfl) (fun v194 w195 HS => ?_)
   replace HS := HS.deriveN (p := (rF k67 ([] : List S67) [])) (fun _ _ => Reps.none _ _)
   refine WL.lit0 HS rfl rfl (by decide) rfl underlying49 (sz := 2) (by kernel_rfl) (fun v196 w197 HS => ?_)
   replace HS := HS.deriveN (p := (rF k67 ([] : List S67) [])) (fun _ _ => Reps.none _ _)
   refine fast_ ?_
   refine via_ hK193 (WC.ret ?_)
   clear hK193
   obtain ⟨A198, c199, rfl⟩ := row_slice (HS.mu 1 rfl)
   exact by (
   have le200 := row_le (HS.mu 1 rfl)
   replace HS := HS.freezeN 1 (p := (fun W => k67.C W A198 0 (([] : List S67)))) rfl (fun W_ hm_ h_ => row_C (by simp) hm_ h_.2.1)
   dsimp only [List.eraseIdx] at HS
   obtain ⟨A201, c202, rfl⟩ := row_slice (HS.mu 0 rfl)
   have le203 := row_le (HS.mu 0 rfl)
   replace HS := HS.freezeN 0 (p := (fun W => k67.C W A201 0 (([] : List S67)))) rfl (fun W_ hm_ h_ => row_C (by simp) hm_ h_.2.1)
   dsimp only [List.eraseIdx] at HS
   obtain ⟨rfl, rfl, rfl, rfl⟩ := (by have h_ := os H; simp only [Prod.mk.injEq] at h_; exact h_)
   exact by (
   have HSf := (St.forget (St.forget HS 1 rfl) 0 rfl)
   exact fin3 Tryz.f97 rfl rfl rfl rfl hR_ ⟨_, _, _, _, rfl, le200, (foot_freshM (HSf.footN 1 rfl)), le203, (foot_freshM (HSf.footN 0 rfl)), (HSf.mu 0 rfl), (rest_of (HSf.getO 4 rfl) (HSf.mu 1 rfl)), HSf.b⟩ )))
 refine wn_ (nB c31) (WC.skip (via_ hK29 (sr_ fun _ hK32 => ?_)))
 clear hK29
 refine mv_ ?_
 refine v_ (fa_ underlying118) ?_
 obtain ⟨A33, c34, hc35, le36, HS⟩ := HS.sO 1 rfl at118_7
 obtain ⟨A37, c38, hc39, le40, HS⟩ := HS.sO 2 rfl at118_8
 exact by (
 refine v_ (ls_ (HS.mu 0 rfl) underlying30 (part_cons (at118_6 (HS.aO 3 rfl)).int (part_cons hc35 (part_cons hc39 (part_cons (at118_9 (HS.aO 3 rfl)).int (part_cons (at118_10 (HS.aO 3 rfl)).int part_nil)))))) ?_
 refine mv_ ?_
 obtain ⟨t41, ha42, H⟩ := bind_some H
 refine c_ func176 (spec_l17Sums.runs k b4 (⟨x4.f0, x4.f1⟩ : S148) ((x0.f5.getD a1.toNat o118).f2) A33 c34 A37 c38 A25 c26 t22.1 _ t41 _ _ HS.b (HS.nodupM 2 rfl) (HS.boundM 2 rfl) (HS.mu 2 rfl) (HS.footOM 2 rfl 1 rfl) le36 (HS.footOM 2 rfl 0 rfl) le40 (HS.footNM 2 rfl 0 rfl) le27 ha42) ?_
 clear ha42
 rintro _ w43 ⟨rfl, hbx_, hrest_, hB1_⟩
 replace HS := HS.calledM 2 rfl hB1_ hrest_ hbx_
 dsimp only [List.set] at HS
 exact by (
 clear hB1_ hrest_ hbx_
 refine ⟨_, rfl, ?_⟩
 refine dn_ hK32 (sr_ fun _ hK44 => ?_)
 clear hK32
 refine mv_ ?_
 refine v_ (fa_ underlying118) ?_
 obtain ⟨A45, c46, hc47, le48, HS⟩ := HS.sO 3 rfl at118_12
 obtain ⟨A49, c50, hc51, le52, HS⟩ := HS.sO 4 rfl at118_13
 exact by (
 refine v_ (ls_ (HS.mu 0 rfl) underlying30 (part_cons (at118_11 (HS.aO 5 rfl)).int (part_cons hc47 (part_cons hc51 (part_cons (at118_14 (HS.aO 5 rfl)).int (part_cons (at118_15 (HS.aO 5 rfl)).int part_nil)))))) ?_
 refine mv_ ?_
 obtain ⟨t53, ha54, H⟩ := bind_some H
 refine c_ func176 (spec_l17Sums.runs k b4 (⟨t41.f0, t41.f1⟩ : S148) ((x0.f5.getD a1.toNat o118).f3) A45 c46 A49 c50 A25 c26 t22.1 _ t53 _ _ HS.b (HS.nodupM 2 rfl) (HS.boundM 2 rfl) (HS.mu 2 rfl) (HS.footOM 2 rfl 1 rfl) le48 (HS.footOM 2 rfl 0 rfl) le52 (HS.footNM 2 rfl 0 rfl) le27 ha54) ?_
 clear ha54
 rintro _ w55 ⟨rfl, hbx_, hrest_, hB1_⟩
 replace HS := HS.calledM 2 rfl hB1_ hrest_ hbx_
 dsimp only [List.set] at HS
 exact by (
 clear hB1_ hrest_ hbx_
 refine ⟨_, rfl, ?_⟩
 refine dn_ hK44 (sr_ fun _ hK56 => ?_)
 clear hK44
 refine v_ (fa_ underlying118) ?_
 refine v_ (ls_ (HS.mu 0 rfl) underlying30 (part_cons (at118_6 (HS.aO 5 rfl)).int (part_cons hc35 (part_cons hc39 (part_cons (at118_9 (HS.aO 5 rfl)).int (part_cons (at118_10 (HS.aO 5 rfl)).int part_nil)))))) ?_
 refine mv_ ?_
 obtain ⟨t57, ha58, H⟩ := bind_some H
 exact by (
 refine c_ func177 (spec_Apply.runs k ((x0.f5.getD a1.toNat o118).f2) A33 c34 A37 c38 A25 c26 t22.1 t57.1 t57.2 _ (HS.getO 3 rfl) le36 (HS.getO 2 rfl) le40 (HS.getN 0 rfl) le27 ha58) ?_
 clear ha58
 rintro _ w59 ⟨A60, c61, rfl, le62, hf63, hb⟩
 replace HS := HS.newNs hb (foot_cons hf63 foot_nil)
 refine ⟨_, rfl, ?_⟩
 clear hb
 refine mv_ ?_
 refine v_ (Run.extract rfl rfl rfl) ?_
 exact by (
 refine v_ (Run.extract rfl rfl rfl) ?_
 refine as_ ?_
 refine ad_ hK56 ?_
 clear hK56
 refine sr_ fun _ hK64 => ?_
 refine v_ (fa_ underlying118) ?_
 refine v_ (ls_ (HS.mu 0 rfl) underlying30 (part_cons (at118_11 (HS.aO 5 rfl)).int (part_cons hc47 (part_cons hc51 (part_cons (at118_14 (HS.aO 5 rfl)).int (part_cons (at118_15 (HS.aO 5 rfl)).int part_nil)))))) ?_
 refine mv_ ?_
 exact by (
 obtain ⟨t65, ha66, H⟩ := bind_some H
 refine c_ func177 (spec_Apply.runs k ((x0.f5.getD a1.toNat o118).f3) A45 c46 A49 c50 A25 c26 t22.1 t65.1 t65.2 _ (HS.getO 1 rfl) le48 (HS.getO 0 rfl) le52 (HS.getN 1 rfl) le27 ha66) ?_
 clear ha66
 rintro _ w67 ⟨A68, c69, rfl, le70, hf71, hb⟩
 replace HS := HS.newNs hb (foot_cons hf71 foot_nil)
 refine ⟨_, rfl, ?_⟩
 clear hb
 refine mv_ ?_
 exact by (
 refine v_ (Run.extract rfl rfl rfl) ?_
 refine v_ (Run.extract rfl rfl rfl) ?_
 refine as_ ?_
 refine ad_ hK64 ?_
 clear hK64
 refine WC.seq fun _ hK72 => ?_
 refine WC.drawS HS [] rfl rfl (fun w73 HS => ?_)
 have HB := Below.refl w73.heap.size w73
 exact by (
 have HSW := HS
 refine df_ 0 underlying34 ?_
 refine dm_ 2 ?_
 refine df_ 3 underlying34 ?_
 refine df_ 5 underlying34 ?_
 refine dm_ 8 ?_
 obtain ⟨A74, c75, hc76, le77, HS⟩ := HS.sO 9 rfl at34_12
 obtain ⟨A78, c79, hc80, le81, HS⟩ := HS.sO 10 rfl at34_13
 exact by (
 refine dt_ 1 (Below.refl _ _) (fun w_ hw_ => Run.loadS (cs := [.slice A74 x0.f8.f0.length c75, .slice A78 x0.f8.f1.length c79]) rfl rfl underlying32 rfl (by kernel_rfl) (box_part ((HS.below hw_).mu 1 rfl) (part_cons hc76 (part_cons hc80 part_nil)))) ?_
 refine bl_ 4 HS (Below.refl _ _) 1 underlying3 (at34_0 (HS.aO 11 rfl)).int ?_
 refine bl_ 6 HS (Below.refl _ _) 1 underlying3 (at34_1 (HS.aO 11 rfl)).int ?_
 obtain ⟨z82, H⟩ := if_some H
 refine dp_ 7 (fun _ => Run.bin rfl rfl rfl (bin_quo64 z82)) ?_
 obtain ⟨t83, ha84, H⟩ := bind_some H
 refine dc_ 9 (w_none rfl) func178 (spec_TurnAll.runs k x0.f8 A74 c75 A78 c79 a2 (wrap64 (Int.tdiv x0.f0 x0.f1)) A60 c61 t57.1 t83.1 t83.2 _ (HS.getO 1 rfl) le77 (HS.getO 0 rfl) le81 (HS.getN 1 rfl) le62 ha84) ?_
 clear ha84
 exact by (
 rintro _ w85 ⟨A86, c87, rfl, le88, hf89, hb⟩
 replace HB := HB.trans (hb.mono HB.size)
 replace HS := HS.newNs hb (foot_cons hf89 foot_nil)
 refine ⟨HB, _, rfl, ?_⟩
 clear hb
 refine dm_ 10 ?_
 refine dp_ 11 (fun _ => Run.extract rfl rfl rfl) ?_
 refine dp_ 12 (fun _ => Run.extract rfl rfl rfl) ?_
 exact by (
 refine dp_ 13 (fun _ => Run.assign rfl rfl) ?_
 refine dd_ ?_
 clear HB HSW
 refine via_ hK72 (sr_ fun _ hK90 => ?_)
 clear hK72
 refine mv_ ?_
 refine v_ (fa_ underlying34) ?_
 refine v_ (lb_ (HS.mu 1 rfl) underlying3 (at34_1 (HS.aO 11 rfl)).int) ?_
 exact by (
 obtain ⟨t91, ha92, H⟩ := bind_some H
 refine c_ func179 (spec_Heads.runs k A86 c87 t83.1 x0.f1 t91.1 t91.2 _ (HS.getN 0 rfl) le88 ha92) ?_
 clear ha92
 rintro _ w93 ⟨A94, c95, rfl, le96, hf97, hb⟩
 replace HS := HS.newNs hb (foot_cons hf97 foot_nil)
 refine ⟨_, rfl, ?_⟩
 clear hb
 refine mv_ ?_
 exact by (
 refine v_ (Run.extract rfl rfl rfl) ?_
 refine v_ (Run.extract rfl rfl rfl) ?_
 refine as_ ?_
 refine ad_ hK90 ?_
 clear hK90
 refine sr_ fun _ hK98 => ?_
 refine mv_ ?_
 refine v_ (fa_ underlying34) ?_
 exact by (
 refine v_ (lb_ (HS.mu 1 rfl) underlying3 (at34_1 (HS.aO 11 rfl)).int) ?_
 obtain ⟨t99, ha100, H⟩ := bind_some H
 refine c_ func179 (spec_Heads.runs k A68 c69 t65.1 x0.f1 t99.1 t99.2 _ (HS.getN 2 rfl) le70 ha100) ?_
 clear ha100
 rintro _ w101 ⟨A102, c103, rfl, le104, hf105, hb⟩
 replace HS := HS.newNs hb (foot_cons hf105 foot_nil)
 refine ⟨_, rfl, ?_⟩
 clear hb
 exact by (
 refine mv_ ?_
 refine v_ (Run.extract rfl rfl rfl) ?_
 refine v_ (Run.extract rfl rfl rfl) ?_
 refine as_ ?_
 refine ad_ hK98 ?_
 clear hK98
 refine sr_ fun _ hK106 => ?_
 refine WL.lit0 HS rfl rfl (by decide) rfl underlying49 (sz := 2) (by kernel_rfl) (fun v107 w108 HS => ?_)
 exact by (
 replace HS := HS.deriveN (p := (rF k67 ([] : List S67) [])) (fun _ _ => Reps.none _ _)
 refine ad_ hK106 ?_
 clear hK106
 refine sr_ fun _ hK109 => ?_
 refine WL.lit0 HS rfl rfl (by decide) rfl underlying49 (sz := 2) (by kernel_rfl) (fun v110 w111 HS => ?_)
 replace HS := HS.deriveN (p := (rF k67 ([] : List S67) [])) (fun _ _ => Reps.none _ _)
 refine ad_ hK109 ?_
 clear hK109
 exact by (
 refine WC.seq fun K112 hK112 => ?_
 refine sr_ fun _ hK113 => ?_
 refine ad_ hK113 ?_
 clear hK113
 refine WC.block ?_
 obtain ⟨G114, hG115, oc116, H, Ho117⟩ := open_G H
 let J125 := fun (xs118 : List S67) v119 I120 (xs121 : List S67) v122 I123 (i124 : Int) (E_ : Env) (W_ : World) => E_ = [(5, .pointer (some ⟨b2, 0, none⟩)), (20, .slice A94 t91.1.length c95), (22, .slice A102 t99.1.length c103), (24, v119), (25, v122), (26, vi i124)] ∧ St (fun _ => True) w0 W_ [rowM w0.heap.size 67 2 v122 xs121.length I123, rowM w0.heap.size 67 2 v119 xs118.length I120, boxM b14 e12.toArray 118, boxM b2 cs0.toArray 34, boxM b4 #[vi t53.f0, vi t53.f1] 148, keepM w bs_] [(cF kS3 A78 x0.f8.f1), (cF kS3 A74 x0.f8.f0), (cF kS3 A49 (x0.f5.getD a1.toNat o118).f3.f2), (cF kS3 A45 (x0.f5.getD a1.toNat o118).f3.f1), (cF kS3 A37 (x0.f5.getD a1.toNat o118).f2.f2), (cF kS3 A33 (x0.f5.getD a1.toNat o118).f2.f1), (cF kI A18 (x0.f5.getD a1.toNat o118).f0), (kF k118 (x0.f5.getD a1.toNat o118) e12), (cF k118 (some ad11) x0.f5), (frameF w b4 bs_), (kF k34 x0 cs0), (cF kI A3 l3)] [(rF k67 xs121 I123), (rF k67 xs118 I120), (cF kS3 A102 t99.1), (cF kS3 A94 t91.1)]
 have X126 : ∀ E_ W_, (∃ xs118 v119 I120 xs121 v122 I123 i124, G114 (xs118, xs121, i124) = some (r1, r2, r3, y_) ∧ J125 xs118 v119 I120 xs121 v122 I123 i124 E_ W_) → ∀ a, Fits a 132 E_ → K112 a W_ := by
   exact by (
   rintro E_ w127 ⟨xs118, v119, I120, xs121, v122, I123, i124, H, rfl, HS⟩
   rw [hG115] at H
   (try dsimp only at H)
   refine hK112 _ _ ?_
   clear hK112
   refine sr_ fun _ hK128 => ?_
   refine fast_ ?_
   refine via_ hK128 (WC.ret ?_)
   exact by (
   clear hK128
   obtain ⟨A129, c130, rfl⟩ := row_slice (HS.mu 1 rfl)
   have le131 := row_le (HS.mu 1 rfl)
   replace HS := HS.freezeN 1 (p := (cF k67 A129 (xs118))) rfl (fun W_ hm_ h_ => row_C (by rfl) hm_ h_.2.1)
   dsimp only [List.eraseIdx] at HS
   obtain ⟨A132, c133, rfl⟩ := row_slice (HS.mu 0 rfl)
   have le134 := row_le (HS.mu 0 rfl)
   replace HS := HS.freezeN 0 (p := (cF k67 A132 (xs121))) rfl (fun W_ hm_ h_ => row_C (by rfl) hm_ h_.2.1)
   exact by (
   dsimp only [List.eraseIdx] at HS
   obtain ⟨rfl, rfl, rfl, rfl⟩ := (by have h_ := os H; simp only [Prod.mk.injEq] at h_; exact h_)
   have HSf := (St.forget (St.forget HS 1 rfl) 0 rfl)
   exact fin3 Tryz.f97 rfl rfl rfl rfl hR_ ⟨_, _, _, _, rfl, le131, (foot_freshM (HSf.footN 1 rfl)), le134, (foot_freshM (HSf.footN 0 rfl)), (HSf.mu 0 rfl), (rest_of (HSf.getO 9 rfl) (HSf.mu 1 rfl)), HSf.b⟩ )))
 clear hK112
 refine WC.loop (fun k_ E_ W_ => ∃ xs118 v119 I120 xs121 v122 I123 i124, (∃ o_, spec_l17KeyValue.l0 x0 t91 t99 k_ xs118 xs121 i124 = some o_ ∧ G114 o_ = some (r1, r2, r3, y_)) ∧ J125 xs118 v119 I120 xs121 v122 I123 i124 E_ W_) k ⟨([] : List S67), v107, ([]), ([] : List S67), v110, ([]), 0, ⟨_, H, Ho117⟩, rfl, (St.pk HS [0, 1, 2, 3, 4, 5, 6, 7, 9, 10, 11, 12] [0, 1, 2, 3] rfl rfl)⟩ (sb rfl) ?_
 rintro k_ E_ w136 ⟨xs118, v119, I120, xs121, v122, I123, i124, ⟨oc116, H, Ho117⟩, rfl, HS⟩
 rcases k_ with _ | k137
 · exact no_ H
 exact by (
 replace H : spec_l17KeyValue.b0 x0 t91 t99 (spec_l17KeyValue.l0 x0 t91 t99 k137) k137 xs118 xs121 i124 = some oc116 := H
 unfold spec_l17KeyValue.b0 at H
 refine WC.seq fun _ hK138 => ?_
 refine sr_ fun _ hK139 => ?_
 refine mv_ ?_
 refine v_ (fa_ underlying34) ?_
 refine v_ (lb_ (HS.mu 3 rfl) underlying3 (at34_1 (HS.aO 10 rfl)).int) ?_
 refine b_ bin_lss ?_
 exact by (
 refine dn_ hK139 ?_
 clear hK139
 rcases eti_ H with ⟨c140, H⟩ | ⟨c140, H⟩
 · refine wn_ (dF c140) (WC.exit ?_)
   obtain rfl := os H
   exact wv_ iq X126 ⟨xs118, v119, I120, xs121, v122, I123, i124, Ho117, rfl, HS⟩
 refine wy_ (dT c140) (WC.skip (via_ hK138 (WC.seq fun _ hK141 => ?_)))
 clear hK138
 exact by (
 refine WC.block (sr_ fun _ hK142 => ?_)
 refine mv_ ?_
 refine mv_ ?_
 obtain ⟨⟨q143, q144⟩, H⟩ := if_some H
 obtain ⟨ad145, rfl⟩ := C_open (HS.getN 3 rfl) (lenpos q143 q144)
 refine v_ (ia_ underlying26 1 q143 q144) ?_
 obtain ⟨A146, c147, le148, HS⟩ := HS.slN 3 rfl i124 q143 q144
 refine v_ (Run.load rfl rfl underlying28 rfl (HS.getN 1 rfl)) ?_
 exact by (
 obtain ⟨t149, ha150, H⟩ := bind_some H
 refine c_ func180 (spec_CutDown.runs k137 A146 c147 (t91.1.getD i124.toNat []) t149.1 t149.2 _ (HS.getN 0 rfl) le148 ha150) ?_
 clear ha150
 rintro _ w151 ⟨v152, bl153, rfl, hO_, hb⟩
 replace HS := HS.got hb hO_
 dsimp only [List.cons_append, List.nil_append] at HS
 clear hO_
 obtain ⟨I154, bl155, HS⟩ := HS.unseal (sz := 1) rfl
 exact by (
 replace HS := HS.freezeN 1 (p := (rF kI t149.1.f1 I154)) rfl (fun _ hP_ _ => RepsB.reps hP_)
 dsimp only [List.eraseIdx] at HS
 refine ⟨_, rfl, ?_⟩
 clear hb
 refine mv_ ?_
 refine v_ (Run.extract rfl rfl rfl) ?_
 refine v_ (Run.extract rfl rfl rfl) ?_
 refine WL.alloc HS (v := .agg #[vi 0, sn]) (cs := #[vi 0, sn]) rfl rfl (by decide) rfl (by kernel_rfl) rfl (fun b156 w157 hb156 HS => ?_)
 exact by (
 obtain ⟨A159, c160, rfl⟩ := row_slice (HS.mu 1 rfl)
 refine WL.storeW HS 0 rfl rfl rfl rfl rfl rfl (oneL rfl) (by kernel_rfl) rfl (fun w158 HS => ?_)
 dsimp only [List.set] at HS
 refine ad_ hK142 ?_
 clear hK142
 refine sr_ fun _ hK161 => ?_
 refine mv_ ?_
 refine mv_ ?_
 exact by (
 obtain ⟨⟨q162, q163⟩, H⟩ := if_some H
 obtain ⟨ad164, rfl⟩ := C_open (HS.getN 5 rfl) (lenpos q162 q163)
 refine v_ (ia_ underlying26 1 q162 q163) ?_
 obtain ⟨A165, c166, le167, HS⟩ := HS.slN 5 rfl i124 q162 q163
 refine v_ (Run.load rfl rfl underlying28 rfl (HS.getN 1 rfl)) ?_
 obtain ⟨t168, ha169, H⟩ := bind_some H
 refine c_ func180 (spec_CutDown.runs k137 A165 c166 (t99.1.getD i124.toNat []) t168.1 t168.2 _ (HS.getN 0 rfl) le167 ha169) ?_
 clear ha169
 exact by (
 rintro _ w170 ⟨v171, bl172, rfl, hO_, hb⟩
 replace HS := HS.got hb hO_
 dsimp only [List.cons_append, List.nil_append] at HS
 clear hO_
 obtain ⟨I173, bl174, HS⟩ := HS.unseal (sz := 1) rfl
 replace HS := HS.freezeN 1 (p := (rF kI t168.1.f1 I173)) rfl (fun _ hP_ _ => RepsB.reps hP_)
 dsimp only [List.eraseIdx] at HS
 refine ⟨_, rfl, ?_⟩
 exact by (
 clear hb
 refine mv_ ?_
 refine v_ (Run.extract rfl rfl rfl) ?_
 refine v_ (Run.extract rfl rfl rfl) ?_
 refine WL.alloc HS (v := .agg #[vi 0, sn]) (cs := #[vi 0, sn]) rfl rfl (by decide) rfl (by kernel_rfl) rfl (fun b175 w176 hb175 HS => ?_)
 obtain ⟨A178, c179, rfl⟩ := row_slice (HS.mu 1 rfl)
 refine WL.storeW HS 0 rfl rfl rfl rfl rfl rfl (oneL rfl) (by kernel_rfl) rfl (fun w177 HS => ?_)
 dsimp only [List.set] at HS
 exact by (
 refine ad_ hK161 ?_
 clear hK161
 refine sr_ fun _ hK180 => ?_
 refine mv_ ?_
 refine v_ (ls_ (HS.mu 2 rfl) underlying67 part_all) ?_
 have le181 := row_le (HS.mu 3 rfl)
 replace HS := HS.freezeN 3 (p := (cF kI A159 (t149.1.f1))) rfl (fun W_ hm_ h_ => row_C (by rfl) hm_ h_.2.2.2.1)
 dsimp only [List.eraseIdx] at HS
 exact by (
 refine WL.val rfl rfl (by decide) (Run.lit1 (z := (.agg #[vi 0, sn])) (vs := [vi t149.1.f0, .slice A159 t149.1.f1.length c160]) rfl rfl rfl underlying49 (by kernel_rfl) (ble_ rfl) (ble_ rfl)) ?_
 have HS1 := HS.below (below_alloc (Below.refl _ _) (.cells #[vi t149.1.f0, .slice A159 t149.1.f1.length c160] 67))
 obtain ⟨q182, H⟩ := if_some H
 refine WL.append HS1 4 rfl rfl rfl (by decide) rfl (.agg #[vi 0, sn]) 32 underlying49 (by kernel_rfl) rfl (by decide) (by decide) rfl rfl [vi t149.1.f0, .slice A159 t149.1.f1.length c160] rfl (lit_news _ _ _) (oneL rfl) (by omega) ((xs118 ++ [(⟨t149.1.f0, t149.1.f1⟩ : S67)]).length) (by simp) (fun v183 w184 I185 hI186 HS => ?_)
 dsimp only [List.set] at HS
 replace HS := HS.deriveN (p := (rF k67 (xs118 ++ [(⟨t149.1.f0, t149.1.f1⟩ : S67)]) I185)) (fun W_ hN_ => reps_snoc hI186 hN_.2.2.2.2.2.2.2.2.1 (k67_mk _ (⟨t149.1.f0, t149.1.f1⟩ : S67) (le181) hN_.1))
 clear HS1
 refine ad_ hK180 ?_
 exact by (
 clear hK180
 refine rg_ (mv_ ?_)
 refine v_ (ls_ (HS.mu 0 rfl) underlying67 part_all) ?_
 have le187 := row_le (HS.mu 1 rfl)
 replace HS := HS.freezeN 1 (p := (cF kI A178 (t168.1.f1))) rfl (fun W_ hm_ h_ => row_C (by rfl) hm_ h_.2.2.1)
 dsimp only [List.eraseIdx] at HS
 refine WL.val rfl rfl (by decide) (Run.lit1 (z := (.agg #[vi 0, sn])) (vs := [vi t168.1.f0, .slice A178 t168.1.f1.length c179]) rfl rfl rfl underlying49 (by kernel_rfl) (ble_ rfl) (ble_ rfl)) ?_
 have HS1 := HS.below (below_alloc (Below.refl _ _) (.cells #[vi t168.1.f0, .slice A178 t168.1.f1.length c179] 67))
 exact by (
 obtain ⟨q188, H⟩ := if_some H
 refine WL.append HS1 2 rfl rfl rfl (by decide) rfl (.agg #[vi 0, sn]) 32 underlying49 (by kernel_rfl) rfl (by decide) (by decide) rfl rfl [vi t168.1.f0, .slice A178 t168.1.f1.length c179] rfl (lit_news _ _ _) (oneL rfl) (by omega) ((xs121 ++ [(⟨t168.1.f0, t168.1.f1⟩ : S67)]).length) (by simp) (fun v189 w190 I191 hI192 HS => ?_)
 dsimp only [List.set] at HS
 replace HS := HS.deriveN (p := (rF k67 (xs121 ++ [(⟨t168.1.f0, t168.1.f1⟩ : S67)]) I191)) (fun W_ hN_ => reps_snoc hI192 hN_.2.2.2.2.2.2.2.2.2.1 (k67_mk _ (⟨t168.1.f0, t168.1.f1⟩ : S67) (le187) hN_.1))
 clear HS1
 refine ad_ hK141 ?_
 clear hK141
 refine rg_ (mv_ ?_)
 exact by (
 refine b_ bin_add64 ?_
 refine as_ ?_
 refine WL.done ?_
 exact wr_ k137 iq ⟨(xs118 ++ [(⟨t149.1.f0, t149.1.f1⟩ : S67)]), v183, I185, (xs121 ++ [(⟨t168.1.f0, t168.1.f1⟩ : S67)]), v189, I191, (wrap64 (i124 + 1)), ⟨_, H, Ho117⟩, rfl, (St.pk (St.forget (St.forget HS 1 rfl) 0 rfl) [0, 1, 2, 3, 4, 5, 6, 7, 8, 9, 10, 11] [0, 2, 12, 13] rfl rfl)⟩ )))))))))))))))))))))))))))))))))))))
def spec_KeyValue.g (k : Nat) (x0 : S34) (a1 : Int) (a2 : Int) (l3 : List Int) : Option ((List S67) × (List S67) × Bool) := ((spec_ModelOk.g k x0).bind fun t6 => (if t6 = true then ((spec_l01In.f a1 0 (wrap64 ((x0.f5.length : Int) - 1))).bind fun t14 => (if t14 = true then ((spec_l01In.f a2 0 (wrap64 (x0.f2 - 1))).bind fun t18 => (if t18 = true then (if (l3.length : Int) = x0.f0 then ((spec_l17KeyValue.g k x0 a1 a2 l3 (⟨0, 0⟩ : S148)).bind fun t26 => (some (t26.1, t26.2.1, t26.2.2.1))) else (some (([] : List S67), ([] : List S67), false))) else (some (([] : List S67), ([] : List S67), false)))) else (some (([] : List S67), ([] : List S67), false)))) else (some (([] : List S67), ([] : List S67), false))))
theorem spec_KeyValue.runs (k : Nat) (cs0 : List Value) (x0 : S34) (a1 : Int) (a2 : Int) (A3 : Option Addr) (c3 : Nat) (l3 : List Int) (r1 : List S67) (r2 : List S67) (r3 : Bool) (w : World) (hk0 : k34.K w x0 cs0) (hr3 : kI.C w A3 l3.length l3) (hc3 : l3.length ≤ c3) (H : spec_KeyValue.g k x0 a1 a2 l3 = some (r1, r2, r3)) :
   Calls prog 19 #[.agg cs0.toArray, vi a1, vi a2, .slice A3 l3.length c3] w fun e w' => ∃ (A0_ : Option Addr) (c0_ : Nat) (A1_ : Option Addr) (c1_ : Nat), e = .returned (.tuple #[.slice A0_ r1.length c0_, .slice A1_ r2.length c1_, .bool r3]) ∧ r1.length ≤ c0_ ∧ Foot (cF k67 A0_ r1) w' (fun k_ => w.heap.size ≤ k_) ∧ r2.length ≤ c1_ ∧ Foot (cF k67 A1_ r2) w' (fun k_ => w.heap.size ≤ k_) ∧ Below w.heap.size w w' := by
 have el0 : cs0.length = 14 := k34.K_len hk0
 unfold spec_KeyValue.g at H
 have HS : St (fun _ => True) w w [] [(kF k34 x0 cs0), (cF kI A3 l3)] [] := St.start (foot_cons (foot_K h34 hk0) (foot_cons (foot_C (Kd.heap_int _) hr3) foot_nil))
 refine cw_ (n := 50) func19 fun R_ hR_ => ?_
 refine sr_ fun _ hK1 => ?_
 refine bo_ HS (fun b2 w3 hb2 HS => ?_)
 refine fast_ ?_
 refine via_ hK1 (WC.seq fun _ hK4 => ?_)
 refine sr_ fun _ hK5 => ?_
 refine v_ (Run.loadS (cs := cs0) rfl rfl underlying34 rfl (by rw [el0]; kernel_rfl) (box_part (HS.mu 0 rfl) part_all)) ?_
 obtain ⟨t6, ha7, H⟩ := bind_some H
 refine cs_ HS func95 (spec_ModelOk.runs k cs0 x0 t6 _ (HS.getO 0 rfl) ha7) (fun w8 HS => ?_)
 clear ha7
 refine nt_ ?_
 refine mv_ ?_
 rcases eti_ H with ⟨c9, H⟩ | ⟨c9, H⟩
 · refine off_ (c' := true) (nB (bF c9)) ?_
   refine WL.know 14 (nB (bF c9)) ?_
   refine fast_ ?_
   refine via_ hK5 (wy_ rfl ?_)
   refine sr_ fun _ hK70 => ?_
   refine WL.lit0 HS rfl rfl (by decide) rfl underlying49 (sz := 2) (by kernel_rfl) (fun v71 w72 HS => ?_)
   replace HS := HS.deriveN (p := (rF k67 ([] : List S67) [])) (fun _ _ => Reps.none _ _)
   refine WL.lit0 HS rfl rfl (by decide) rfl underlying49 (sz := 2) (by kernel_rfl) (fun v73 w74 HS => ?_)
   replace HS := HS.deriveN (p := (rF k67 ([] : List S67) [])) (fun _ _ => Reps.none _ _)
   refine fast_ ?_
   refine via_ hK70 (WC.ret ?_)
   obtain ⟨A75, c76, rfl⟩ := row_slice (HS.mu 1 rfl)
   have le77 := row_le (HS.mu 1 rfl)
   replace HS := HS.freezeN 1 (p := (fun W => k67.C W A75 0 (([] : List S67)))) rfl (fun W_ hm_ h_ => row_C (by simp) hm_ h_.2.1)
   dsimp only [List.eraseIdx] at HS
   obtain ⟨A78, c79, rfl⟩ := row_slice (HS.mu 0 rfl)
   have le80 := row_le (HS.mu 0 rfl)
   replace HS := HS.freezeN 0 (p := (fun W => k67.C W A78 0 (([] : List S67)))) rfl (fun W_ hm_ h_ => row_C (by simp) hm_ h_.2.1)
   dsimp only [List.eraseIdx] at HS
   obtain ⟨rfl, rfl, rfl⟩ := (by have h_ := os H; simp only [Prod.mk.injEq] at h_; exact h_)
   exact fin3 Tryz.f19 rfl rfl rfl rfl hR_ ⟨_, _, _, _, rfl, le77, (foot_fresh (HS.footN 1 rfl)), le80, (foot_fresh (HS.footN 0 rfl)), HS.b⟩
 refine on_ (nB c9) (mv_ ?_)
 refine on_ (nB c9) (v_ (fa_ underlying34) ?_)
 refine on_ (nB c9) ?_
 obtain ⟨A10, c11, hc12, le13, HS⟩ := HS.sO 0 rfl at34_5
 refine v_ (lb_ (HS.mu 0 rfl) underlying27 hc12) ?_
 refine on_ (nB c9) (ln_ underlying27 ?_)
 refine on_ (nB c9) (b_ bin_sub64 ?_)
 refine on_ (nB c9) ?_
 obtain ⟨t14, ha15, H⟩ := bind_some H
 refine cs0_ HS func96 (spec_l01In.calls a1 0 (wrap64 ((x0.f5.length : Int) - 1)) t14 _ ha15) (fun w16 HS => ?_)
 clear ha15
 refine on_ (nB c9) (nt_ ?_)
 refine v_ (Run.pickF rfl rfl (nB c9) rfl) ?_
 refine mv_ ?_
 rcases eti_ H with ⟨c17, H⟩ | ⟨c17, H⟩
 · refine off_ (c' := true) (nB (bF c17)) ?_
   refine WL.know 23 (nB (bF c17)) ?_
   refine fast_ ?_
   refine via_ hK5 (wy_ rfl ?_)
   refine sr_ fun _ hK59 => ?_
   refine WL.lit0 HS rfl rfl (by decide) rfl underlying49 (sz := 2) (by kernel_rfl) (fun v60 w61 HS => ?_)
   replace HS := HS.deriveN (p := (rF k67 ([] : List S67) [])) (fun _ _ => Reps.none _ _)
   refine WL.lit0 HS rfl rfl (by decide) rfl underlying49 (sz := 2) (by kernel_rfl) (fun v62 w63 HS => ?_)
   replace HS := HS.deriveN (p := (rF k67 ([] : List S67) [])) (fun _ _ => Reps.none _ _)
   refine fast_ ?_
   refine via_ hK59 (WC.ret ?_)
   obtain ⟨A64, c65, rfl⟩ := row_slice (HS.mu 1 rfl)
   have le66 := row_le (HS.mu 1 rfl)
   replace HS := HS.freezeN 1 (p := (fun W => k67.C W A64 0 (([] : List S67)))) rfl (fun W_ hm_ h_ => row_C (by simp) hm_ h_.2.1)
   dsimp only [List.eraseIdx] at HS
   obtain ⟨A67, c68, rfl⟩ := row_slice (HS.mu 0 rfl)
   have le69 := row_le (HS.mu 0 rfl)
   replace HS := HS.freezeN 0 (p := (fun W => k67.C W A67 0 (([] : List S67)))) rfl (fun W_ hm_ h_ => row_C (by simp) hm_ h_.2.1)
   dsimp only [List.eraseIdx] at HS
   obtain ⟨rfl, rfl, rfl⟩ := (by have h_ := os H; simp only [Prod.mk.injEq] at h_; exact h_)
   exact fin3 Tryz.f19 rfl rfl rfl rfl hR_ ⟨_, _, _, _, rfl, le66, (foot_fresh (HS.footN 1 rfl)), le69, (foot_fresh (HS.footN 0 rfl)), HS.b⟩
 refine on_ (nB c17) (mv_ ?_)
 refine on_ (nB c17) (v_ (fa_ underlying34) ?_)
 refine on_ (nB c17) (v_ (lb_ (HS.mu 0 rfl) underlying3 (at34_2 (HS.aO 1 rfl)).int) ?_)
 refine on_ (nB c17) (b_ bin_sub64 ?_)
 refine on_ (nB c17) ?_
 obtain ⟨t18, ha19, H⟩ := bind_some H
 refine cs0_ HS func96 (spec_l01In.calls a2 0 (wrap64 (x0.f2 - 1)) t18 _ ha19) (fun w20 HS => ?_)
 clear ha19
 refine on_ (nB c17) (nt_ ?_)
 refine v_ (Run.pickF rfl rfl (nB c17) rfl) ?_
 refine mv_ ?_
 rcases eti_ H with ⟨c21, H⟩ | ⟨c21, H⟩
 · refine off_ (c' := true) (nB (bF c21)) ?_
   refine WL.know 31 (nB (bF c21)) ?_
   refine fast_ ?_
   refine via_ hK5 (wy_ rfl ?_)
   refine sr_ fun _ hK48 => ?_
   refine WL.lit0 HS rfl rfl (by decide) rfl underlying49 (sz := 2) (by kernel_rfl) (fun v49 w50 HS => ?_)
   replace HS := HS.deriveN (p := (rF k67 ([] : List S67) [])) (fun _ _ => Reps.none _ _)
   refine WL.lit0 HS rfl rfl (by decide) rfl underlying49 (sz := 2) (by kernel_rfl) (fun v51 w52 HS => ?_)
   replace HS := HS.deriveN (p := (rF k67 ([] : List S67) [])) (fun _ _ => Reps.none _ _)
   refine fast_ ?_
   refine via_ hK48 (WC.ret ?_)
   obtain ⟨A53, c54, rfl⟩ := row_slice (HS.mu 1 rfl)
   have le55 := row_le (HS.mu 1 rfl)
   replace HS := HS.freezeN 1 (p := (fun W => k67.C W A53 0 (([] : List S67)))) rfl (fun W_ hm_ h_ => row_C (by simp) hm_ h_.2.1)
   dsimp only [List.eraseIdx] at HS
   obtain ⟨A56, c57, rfl⟩ := row_slice (HS.mu 0 rfl)
   have le58 := row_le (HS.mu 0 rfl)
   replace HS := HS.freezeN 0 (p := (fun W => k67.C W A56 0 (([] : List S67)))) rfl (fun W_ hm_ h_ => row_C (by simp) hm_ h_.2.1)
   dsimp only [List.eraseIdx] at HS
   obtain ⟨rfl, rfl, rfl⟩ := (by have h_ := os H; simp only [Prod.mk.injEq] at h_; exact h_)
   exact fin3 Tryz.f19 rfl rfl rfl rfl hR_ ⟨_, _, _, _, rfl, le55, (foot_fresh (HS.footN 1 rfl)), le58, (foot_fresh (HS.footN 0 rfl)), HS.b⟩
 refine on_ (nB c21) (mv_ ?_)
 refine on_ (nB c21) (ln_ underlying28 ?_)
 refine on_ (nB c21) (v_ (fa_ underlying34) ?_)
 refine on_ (nB c21) (v_ (lb_ (HS.mu 0 rfl) underlying3 (at34_0 (HS.aO 1 rfl)).int) ?_)
 refine on_ (nB c21) (b_ bin_neq ?_)
 refine v_ (Run.pickF rfl rfl (nB c21) rfl) ?_
 refine dn_ hK5 ?_
 rcases eti_ H with ⟨c22, H⟩ | ⟨c22, H⟩
 · refine wy_ (qT c22) (sr_ fun _ hK37 => ?_)
   refine WL.lit0 HS rfl rfl (by decide) rfl underlying49 (sz := 2) (by kernel_rfl) (fun v38 w39 HS => ?_)
   replace HS := HS.deriveN (p := (rF k67 ([] : List S67) [])) (fun _ _ => Reps.none _ _)
   refine WL.lit0 HS rfl rfl (by decide) rfl underlying49 (sz := 2) (by kernel_rfl) (fun v40 w41 HS => ?_)
   replace HS := HS.deriveN (p := (rF k67 ([] : List S67) [])) (fun _ _ => Reps.none _ _)
   refine fast_ ?_
   refine via_ hK37 (WC.ret ?_)
   obtain ⟨A42, c43, rfl⟩ := row_slice (HS.mu 1 rfl)
   have le44 := row_le (HS.mu 1 rfl)
   replace HS := HS.freezeN 1 (p := (fun W => k67.C W A42 0 (([] : List S67)))) rfl (fun W_ hm_ h_ => row_C (by simp) hm_ h_.2.1)
   dsimp only [List.eraseIdx] at HS
   obtain ⟨A45, c46, rfl⟩ := row_slice (HS.mu 0 rfl)
   have le47 := row_le (HS.mu 0 rfl)
   replace HS := HS.freezeN 0 (p := (fun W => k67.C W A45 0 (([] : List S67)))) rfl (fun W_ hm_ h_ => row_C (by simp) hm_ h_.2.1)
   dsimp only [List.eraseIdx] at HS
   obtain ⟨rfl, rfl, rfl⟩ := (by have h_ := os H; simp only [Prod.mk.injEq] at h_; exact h_)
   exact fin3 Tryz.f19 rfl rfl rfl rfl hR_ ⟨_, _, _, _, rfl, le44, (foot_fresh (HS.footN 1 rfl)), le47, (foot_fresh (HS.footN 0 rfl)), HS.b⟩
 refine wn_ (qF c22) (WC.skip (via_ hK4 (sr_ fun _ hK23 => ?_)))
 refine v_ (Run.loadS (cs := cs0) rfl rfl underlying34 rfl (by rw [el0]; kernel_rfl) (box_part (HS.mu 0 rfl) part_all)) ?_
 refine mv_ ?_
 refine mv_ ?_
 refine mv_ ?_
 refine v_ (Run.build (cells := #[vi 0, vi 0]) rfl [] trivial (by kernel_rfl)) ?_
 refine bo_ HS (fun b24 w25 hb24 HS => ?_)
 obtain ⟨t26, ha27, H⟩ := bind_some H
 refine c_ func97 (spec_l17KeyValue.runs k cs0 x0 a1 a2 A3 c3 l3 b24 (⟨0, 0⟩ : S148) _ t26.1 t26.2.1 t26.2.2.1 t26.2.2.2 _ _ HS.b (HS.nodupM 0 rfl) (HS.boundM 0 rfl) (HS.footOM 0 rfl 1 rfl) (HS.footOM 0 rfl 2 rfl) hc3 (HS.mu 0 rfl) ha27) ?_
 clear ha27
 rintro _ w28 ⟨A29, c30, A33, c34, rfl, le31, hf32, le35, hf36, hbx_, hrest_, hB1_⟩
 replace HS := HS.newM 0 rfl hB1_ hrest_ hbx_ (foot_cons hf32 (foot_cons hf36 foot_nil))
 dsimp only [List.set] at HS
 clear hB1_ hrest_ hbx_
 refine ⟨_, rfl, ?_⟩
 refine v_ (Run.extract rfl rfl rfl) ?_
 refine v_ (Run.extract rfl rfl rfl) ?_
 refine v_ (Run.extract rfl rfl rfl) ?_
 refine fast_ ?_
 refine via_ hK23 ?_
 obtain ⟨rfl, rfl, rfl⟩ := (by have h_ := os H; simp only [Prod.mk.injEq] at h_; exact h_)
 exact rt3 Tryz.f19 rfl rfl rfl rfl hR_ ⟨_, _, _, _, rfl, le31, (foot_fresh (HS.footN 0 rfl)), le35, (foot_fresh (HS.footN 1 rfl)), HS.b⟩
end Go.Proofs.YtoccifnjhbibcaaGreat.PFnExactKeyValue
