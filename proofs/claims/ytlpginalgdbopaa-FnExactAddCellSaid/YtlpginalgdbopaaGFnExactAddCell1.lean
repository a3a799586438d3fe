/- Functions that the statement reaches, as Lean functions, and the proof that a call of each comes to just its answer; written by this claim's own program. No conditions. -/
import Derived.Test.YtlpginalgdbopaaGFnExactAddCell0
namespace Go.Proofs.Ytlpginalgdbopaa.PFnExactAddCell
open Try
open Go.RowKit Go.Proofs.YtlpginalgdbopaaW.PrintWords Go.Proofs.YtlpginalgdbopaaW.PrintLast Go.Proofs.YtlpginalgdbopaaW.PrintMore Go.Proofs.Ytlpginalgdbopaa.XW Go.Proofs.Ytlpginalgdbopaa.XOp Go.Proofs.Ytlpginalgdbopaa.XSt Go.Proofs.Ytlpginalgdbopaa.XDraw
set_option linter.unusedVariables false
set_option linter.unusedSimpArgs false
set_option maxHeartbeats 4000000
set_option maxRecDepth 20000
def slices_Index_int_int.b0 (l0 : List Int) (a1 : Int) (rec_ : Int → Option (Int ⊕ Int)) (k15 : Nat) (i8 : Int) : Option (Int ⊕ Int) := (if i8 < (l0.length : Int) then (if 0 ≤ i8 ∧ i8 < (l0.length : Int) then (if a1 = (l0.getD i8.toNat 0) then (some (Sum.inl i8)) else (rec_ (wrap64 (i8 + 1)))) else none) else (some (Sum.inr i8)))
def slices_Index_int_int.l0 (l0 : List Int) (a1 : Int) : Nat → Int → Option (Int ⊕ Int)
 | 0, _ => none
 | k + 1, i8 => slices_Index_int_int.b0 l0 a1 (slices_Index_int_int.l0 l0 a1 k) k i8
def slices_Index_int_int.g (k : Nat) (l0 : List Int) (a1 : Int) : Option Int := ((slices_Index_int_int.l0 l0 a1 k 0).bind (fun oc13 => match oc13 with | .inl r_ => some r_ | .inr i8 => (some (-1))))
theorem slices_Index_int_int.runs (k : Nat) (A0 : Option Addr) (c0 : Nat) (l0 : List Int) (a1 : Int) (r : Int) (w : World) (hr0 : kI.C w A0 l0.length l0) (hc0 : l0.length ≤ c0) (H : slices_Index_int_int.g k l0 a1 = some r) :
   Calls prog 161 #[.slice A0 l0.length c0, vi a1] w fun e w' => e = .returned (vi r) ∧ Below w.heap.size w w' := by
 unfold slices_Index_int_int.g at H
 have HS : St (fun _ => True) w w [] [(cF kI A0 l0)] [] := St.start (foot_cons (foot_C (Kd.heap_int _) hr0) foot_nil)
 refine cw_ (n := 19) func161 fun R_ hR_ => ?_
 refine sr_ fun _ hK1 => ?_
 refine ad_ hK1 ?_
 refine WC.seq fun K2 hK2 => ?_
 refine sr_ fun _ hK3 => ?_
 refine mv_ ?_
 refine ln_ underlying22 ?_
 refine mv_ ?_
 refine dn_ hK3 (WC.block ?_)
 obtain ⟨G4, hG5, oc6, H, Ho7⟩ := open_G H
 let J9 := fun (i8 : Int) (E_ : Env) (W_ : World) => E_ = [(0, .slice A0 l0.length c0), (1, vi a1), (7, vi (l0.length : Int)), (8, vi i8)] ∧ St (fun _ => True) w W_ [] [(cF kI A0 l0)] []
 have X10 : ∀ E_ W_, (∃ i8, G4 (Sum.inr i8) = some r ∧ J9 i8 E_ W_) → ∀ a, Fits a 19 E_ → K2 a W_ := by
   rintro E_ w11 ⟨i8, H, rfl, HS⟩
   rw [hG5] at H
   (try dsimp only at H)
   refine hK2 _ _ ?_
   refine sr_ fun _ hK12 => ?_
   refine ad_ hK12 ?_
   obtain rfl := os H
   exact rt1 Try.f161 rfl rfl hR_ ⟨rfl, HS.b⟩
 clear hK2
 refine WC.loop (fun k_ E_ W_ => ∃ i8, (∃ o_, slices_Index_int_int.l0 l0 a1 k_ i8 = some o_ ∧ G4 o_ = some r) ∧ J9 i8 E_ W_) k ⟨0, ⟨_, H, Ho7⟩, rfl, HS⟩ (sb rfl) ?_
 rintro k_ E_ w14 ⟨i8, ⟨oc6, H, Ho7⟩, rfl, HS⟩
 rcases k_ with _ | k15
 · exact no_ H
 replace H : slices_Index_int_int.b0 l0 a1 (slices_Index_int_int.l0 l0 a1 k15) k15 i8 = some oc6 := H
 unfold slices_Index_int_int.b0 at H
 refine sr_ fun _ hK16 => ?_
 refine b_ bin_lss ?_
 refine dn_ hK16 (WC.seq fun _ hK17 => ?_)
 rcases eti_ H with ⟨c18, H⟩ | ⟨c18, H⟩
 · refine wn_ (dF c18) (WC.exit ?_)
   obtain rfl := os H
   exact wv_ iq X10 ⟨i8, Ho7, rfl, HS⟩
 refine wy_ (dT c18) (WC.skip (via_ hK17 (WC.seq fun _ hK19 => ?_)))
 refine WC.block (sr_ fun _ hK20 => ?_)
 refine mv_ ?_
 refine ad_ hK20 ?_
 refine sr_ fun _ hK21 => ?_
 refine mv_ ?_
 refine mv_ ?_
 refine mv_ ?_
 obtain ⟨⟨q22, q23⟩, H⟩ := if_some H
 obtain ⟨ad24, rfl⟩ := C_open (HS.getO 0 rfl) (by omega)
 refine v_ (ia_ underlying22 1 q22 q23) ?_
 refine v_ (Run.load rfl rfl underlying3 rfl (int_cell (HS.getO 0 rfl) i8 q22 q23)) ?_
 refine b_ bin_eql ?_
 refine dn_ hK21 ?_
 rcases eti_ H with ⟨c25, H⟩ | ⟨c25, H⟩
 · refine wn_ (eF c25) (WC.skip (via_ hK19 (rg_ (b_ bin_add64 ?_))))
   refine mv_ ?_
   refine WL.done ?_
   exact wr_ k15 iq ⟨(wrap64 (i8 + 1)), ⟨_, H, Ho7⟩, rfl, HS⟩
 refine wy_ (eT c25) (sr_ fun _ hK26 => ?_)
 refine mv_ ?_
 refine ad_ hK26 ?_
 refine WC.ret ?_
 obtain rfl := os H
 rw [hG5] at Ho7
 replace H : some _ = some _ := Ho7
 obtain rfl := os H
 exact fin1 Try.f161 rfl rfl hR_ ⟨rfl, HS.b⟩
def slices_Contains_int_int.g (k : Nat) (l0 : List Int) (a1 : Int) : Option Bool := ((slices_Index_int_int.g k l0 a1).bind fun t3 => (some (decide (t3 ≥ 0))))
theorem slices_Contains_int_int.runs (k : Nat) (A0 : Option Addr) (c0 : Nat) (l0 : List Int) (a1 : Int) (r : Bool) (w : World) (hr0 : kI.C w A0 l0.length l0) (hc0 : l0.length ≤ c0) (H : slices_Contains_int_int.g k l0 a1 = some r) :
   Calls prog 150 #[.slice A0 l0.length c0, vi a1] w fun e w' => e = .returned (.bool r) ∧ Below w.heap.size w w' := by
 unfold slices_Contains_int_int.g at H
 have HS : St (fun _ => True) w w [] [(cF kI A0 l0)] [] := St.start (foot_cons (foot_C (Kd.heap_int _) hr0) foot_nil)
 refine cw_ (n := 9) func150 fun R_ hR_ => ?_
 refine sr_ fun _ hK1 => ?_
 refine ad_ hK1 ?_
 refine sr_ fun _ hK2 => ?_
 refine mv_ ?_
 refine mv_ ?_
 obtain ⟨t3, ha4, H⟩ := bind_some H
 refine cs_ HS func161 (slices_Index_int_int.runs k A0 c0 l0 a1 t3 _ (HS.getO 0 rfl) hc0 ha4) (fun w5 HS => ?_)
 clear ha4
 refine b_ bin_geq ?_
 refine ad_ hK2 ?_
 obtain rfl := os H
 exact rt1 Try.f150 rfl rfl hR_ ⟨rfl, HS.b⟩
def impl_lastCells.g (k : Nat) (x0 : S67) (a1 : Int) : Option Int := (some (if wrap64 (x0.f1 - (wrap64 (a1 * 4))) < 4 then wrap64 (x0.f1 - (wrap64 (a1 * 4))) else 4))
theorem impl_lastCells.runs (k : Nat) (x0 : S67) (A0_0 : Option Addr) (c0_0 : Nat) (a1 : Int) (r : Int) (w : World) (hr0_0 : kI.C w A0_0 x0.f0.length x0.f0) (hc0_0 : x0.f0.length ≤ c0_0) (H : impl_lastCells.g k x0 a1 = some r) :
   Calls prog 148 #[.agg #[.slice A0_0 x0.f0.length c0_0, vi x0.f1], vi a1] w fun e w' => e = .returned (vi r) ∧ Below w.heap.size w w' := by
 unfold impl_lastCells.g at H
 have HS : St (fun _ => True) w w [] [(cF kI A0_0 x0.f0)] [] := St.start (foot_cons (foot_C (Kd.heap_int _) hr0_0) foot_nil)
 refine cw_ (n := 11) func148 fun R_ hR_ => ?_
 refine sr_ fun _ hK1 => ?_
 refine bo_ HS (fun b2 w3 hb2 HS => ?_)
 refine ad_ hK1 ?_
 refine sr_ fun _ hK4 => ?_
 refine v_ (fa_ underlying67) ?_
 refine v_ (lb_ (HS.mu 0 rfl) underlying3 rfl) ?_
 refine mv_ ?_
 refine b_ bin_mul64 ?_
 refine b_ bin_sub64 ?_
 refine v_ (Run.min2 rfl rfl rfl) ?_
 refine ad_ hK4 ?_
 obtain rfl := os H
 exact rt1 Try.f148 rfl rfl hR_ ⟨rfl, HS.b⟩
def impl_tableOk.b0 (x0 : S58) (x1 : S67) (rec_ : Int → Option (Bool ⊕ Int)) (k30 : Nat) (i23 : Int) : Option (Bool ⊕ Int) := (if i23 < (x1.f0.length : Int) then (if 0 ≤ i23 ∧ i23 < (x1.f0.length : Int) then ((impl_in.f (x1.f0.getD i23.toNat 0) 0 (wrap64 ((x0.f0.length : Int) - 1))).bind fun t41 => (if t41 = true then (if 0 ≤ (x1.f0.getD i23.toNat 0) ∧ (x1.f0.getD i23.toNat 0) < (x0.f0.length : Int) then (if (x0.f0.getD (x1.f0.getD i23.toNat 0).toNat 0) = 0 then (some (Sum.inl false)) else (if 0 ≤ i23 ∧ i23 ≤ (x1.f0.length : Int) then ((slices_Contains_int_int.g k30 (x1.f0.take i23.toNat) (x1.f0.getD i23.toNat 0)).bind fun t57 => (if t57 = true then (some (Sum.inl false)) else (if 0 ≤ (x1.f0.getD i23.toNat 0) ∧ (x1.f0.getD i23.toNat 0) < (x0.f1.length : Int) then ((impl_lastCells.g k30 (⟨x1.f0, x1.f1⟩ : S67) i23).bind fun t68 => (if ((x0.f1.getD (x1.f0.getD i23.toNat 0).toNat []).length : Int) < t68 then (some (Sum.inl false)) else (rec_ (wrap64 (i23 + 1))))) else none))) else none)) else none) else (some (Sum.inl false)))) else none) else (some (Sum.inr i23)))
def impl_tableOk.l0 (x0 : S58) (x1 : S67) : Nat → Int → Option (Bool ⊕ Int)
 | 0, _ => none
 | k + 1, i23 => impl_tableOk.b0 x0 x1 (impl_tableOk.l0 x0 x1 k) k i23
def impl_tableOk.g (k : Nat) (x0 : S58) (x1 : S67) : Option Bool := (if x1.f1 < 0 then (some false) else (if x1.f1 > 64 then (some false) else ((impl_NeedPages.f x1.f1).bind fun t13 => (if (x1.f0.length : Int) = t13 then ((impl_tableOk.l0 x0 x1 k 0).bind (fun oc28 => match oc28 with | .inl r_ => some r_ | .inr i23 => (some true))) else (some false)))))
theorem impl_tableOk.runs (k : Nat) (x0 : S58) (A0_0 : Option Addr) (c0_0 : Nat) (A0_1 : Option Addr) (c0_1 : Nat) (x1 : S67) (A1_0 : Option Addr) (c1_0 : Nat) (r : Bool) (w : World) (hr0_0 : kI.C w A0_0 x0.f0.length x0.f0) (hc0_0 : x0.f0.length ≤ c0_0) (hr0_1 : kS62.C w A0_1 x0.f1.length x0.f1) (hc0_1 : x0.f1.length ≤ c0_1) (hr1_0 : kI.C w A1_0 x1.f0.length x1.f0) (hc1_0 : x1.f0.length ≤ c1_0) (H : impl_tableOk.g k x0 x1 = some r) :
   Calls prog 124 #[.agg #[.slice A0_0 x0.f0.length c0_0, .slice A0_1 x0.f1.length c0_1], .agg #[.slice A1_0 x1.f0.length c1_0, vi x1.f1]] w fun e w' => e = .returned (.bool r) ∧ Below w.heap.size w w' := by
 unfold impl_tableOk.g at H
 have HS : St (fun _ => True) w w [] [(cF kI A0_0 x0.f0), (cF kS62 A0_1 x0.f1), (cF kI A1_0 x1.f0)] [] := St.start (foot_cons (foot_C (Kd.heap_int _) hr0_0) (foot_cons (foot_C (Kd.heap_slice _ h62) hr0_1) (foot_cons (foot_C (Kd.heap_int _) hr1_0) foot_nil)))
 refine cw_ (n := 68) func124 fun R_ hR_ => ?_
 refine sr_ fun _ hK1 => ?_
 refine bo_ HS (fun b2 w3 hb2 HS => ?_)
 refine bo_ HS (fun b4 w5 hb4 HS => ?_)
 refine ad_ hK1 ?_
 refine WC.seq fun _ hK6 => ?_
 refine WC.seq fun _ hK7 => ?_
 refine WC.drawS HS [] rfl rfl (fun w8 HS => ?_)
 have HB := Below.refl w8.heap.size w8
 have HSW := HS
 refine df_ 0 underlying67 ?_
 refine bl_ 1 HS (Below.refl _ _) 0 underlying3 rfl ?_
 refine dp_ 2 (fun _ => Run.bin rfl rfl rfl bin_lss) ?_
 refine dm_ 3 ?_
 rcases ite_ H with ⟨c9, H⟩ | ⟨c9, H⟩
 · refine doT_ 4 (dT c9) ?_
   refine doT_ 5 (dT c9) ?_
   refine doT_ 6 (dT c9) ?_
   refine dp_ 7 (fun _ => Run.pickT rfl rfl (dT c9) rfl) ?_
   refine dm_ 8 ?_
   refine doT_ 9 rfl ?_
   refine doT_ 10 rfl ?_
   refine doT_ 11 rfl ?_
   refine doT_ 12 rfl ?_
   refine doT_ 13 rfl ?_
   refine doT_ 14 rfl ?_
   refine doT_ 15 rfl ?_
   refine dp_ 16 (fun _ => Run.pickT rfl rfl rfl rfl) ?_
   refine dd_ ?_
   clear HB HSW
   refine via_ hK7 (wy_ rfl ?_)
   refine sr_ fun _ hK10 => ?_
   refine ad_ hK10 ?_
   obtain rfl := os H
   exact rt1 Try.f124 rfl rfl hR_ ⟨rfl, HS.b⟩
 refine dfg_ 4 (dF c9) underlying67 ?_
 refine blg_ 5 (dF c9) HS (Below.refl _ _) 0 underlying3 rfl ?_
 refine dg_ 6 (dF c9) (fun _ => Run.bin rfl rfl rfl bin_gtr) ?_
 refine dp_ 7 (fun _ => Run.pickF rfl rfl (dF c9) rfl) ?_
 refine dm_ 8 ?_
 rcases ite_ H with ⟨c11, H⟩ | ⟨c11, H⟩
 · refine doT_ 9 (dT c11) ?_
   refine doT_ 10 (dT c11) ?_
   refine doT_ 11 (dT c11) ?_
   refine doT_ 12 (dT c11) ?_
   refine doT_ 13 (dT c11) ?_
   refine doT_ 14 (dT c11) ?_
   refine doT_ 15 (dT c11) ?_
   refine dp_ 16 (fun _ => Run.pickT rfl rfl (dT c11) rfl) ?_
   refine dd_ ?_
   clear HB HSW
   refine via_ hK7 (wy_ rfl ?_)
   refine sr_ fun _ hK12 => ?_
   refine ad_ hK12 ?_
   obtain rfl := os H
   exact rt1 Try.f124 rfl rfl hR_ ⟨rfl, HS.b⟩
 refine dfg_ 9 (dF c11) underlying67 ?_
 refine dfg_ 12 (dF c11) underlying67 ?_
 refine blg_ 10 (dF c11) HS (Below.refl _ _) 0 underlying22 rfl ?_
 refine dg_ 11 (dF c11) (fun _ => Run.len (ts := #[]) rfl underlying22 rfl) ?_
 refine blg_ 13 (dF c11) HS (Below.refl _ _) 0 underlying3 rfl ?_
 obtain ⟨t13, ha14, H⟩ := bind_some H
 refine dcs0_ HS HB 14 (w_on rfl rfl rfl (dF c11)) func53 (impl_NeedPages.calls x1.f1 t13 _ ha14) (fun w15 HS HB => ?_)
 clear ha14
 refine dg_ 15 (dF c11) (fun _ => Run.bin rfl rfl rfl bin_neq) ?_
 refine dp_ 16 (fun _ => Run.pickF rfl rfl (dF c11) rfl) ?_
 refine dd_ ?_
 clear HB HSW
 refine via_ hK7 ?_
 rcases eti_ H with ⟨c16, H⟩ | ⟨c16, H⟩
 · refine wy_ (qT c16) (sr_ fun _ hK74 => ?_)
   refine ad_ hK74 ?_
   obtain rfl := os H
   exact rt1 Try.f124 rfl rfl hR_ ⟨rfl, HS.b⟩
 refine wn_ (qF c16) (WC.skip (via_ hK6 (WC.seq fun K17 hK17 => ?_)))
 refine sr_ fun _ hK18 => ?_
 refine v_ (fa_ underlying67) ?_
 refine v_ (lb_ (HS.mu 0 rfl) underlying22 rfl) ?_
 refine ln_ underlying22 ?_
 refine mv_ ?_
 refine dn_ hK18 (WC.block ?_)
 obtain ⟨G19, hG20, oc21, H, Ho22⟩ := open_G H
 let J24 := fun (i23 : Int) (E_ : Env) (W_ : World) => E_ = [(2, .pointer (some ⟨b2, 0, none⟩)), (3, .pointer (some ⟨b4, 0, none⟩)), (25, .slice A1_0 x1.f0.length c1_0), (26, vi (x1.f0.length : Int)), (27, vi i23)] ∧ St (fun _ => True) w W_ [boxM b4 #[.slice A1_0 x1.f0.length c1_0, vi x1.f1] 67, boxM b2 #[.slice A0_0 x0.f0.length c0_0, .slice A0_1 x0.f1.length c0_1] 58] [(cF kI A0_0 x0.f0), (cF kS62 A0_1 x0.f1), (cF kI A1_0 x1.f0)] []
 have X25 : ∀ E_ W_, (∃ i23, G19 (Sum.inr i23) = some r ∧ J24 i23 E_ W_) → ∀ a, Fits a 68 E_ → K17 a W_ := by
   rintro E_ w26 ⟨i23, H, rfl, HS⟩
   rw [hG20] at H
   (try dsimp only at H)
   refine hK17 _ _ ?_
   refine sr_ fun _ hK27 => ?_
   refine ad_ hK27 ?_
   obtain rfl := os H
   exact rt1 Try.f124 rfl rfl hR_ ⟨rfl, HS.b⟩
 clear hK17
 refine WC.loop (fun k_ E_ W_ => ∃ i23, (∃ o_, impl_tableOk.l0 x0 x1 k_ i23 = some o_ ∧ G19 o_ = some r) ∧ J24 i23 E_ W_) k ⟨0, ⟨_, H, Ho22⟩, rfl, HS⟩ (sb rfl) ?_
 rintro k_ E_ w29 ⟨i23, ⟨oc21, H, Ho22⟩, rfl, HS⟩
 rcases k_ with _ | k30
 · exact no_ H
 replace H : impl_tableOk.b0 x0 x1 (impl_tableOk.l0 x0 x1 k30) k30 i23 = some oc21 := H
 unfold impl_tableOk.b0 at H
 refine sr_ fun _ hK31 => ?_
 refine b_ bin_lss ?_
 refine dn_ hK31 (WC.seq fun _ hK32 => ?_)
 rcases eti_ H with ⟨c33, H⟩ | ⟨c33, H⟩
 · refine wn_ (dF c33) (WC.exit ?_)
   obtain rfl := os H
   exact wv_ iq X25 ⟨i23, Ho22, rfl, HS⟩
 refine wy_ (dT c33) (WC.skip (via_ hK32 (WC.seq fun _ hK34 => ?_)))
 refine WC.block (sr_ fun _ hK35 => ?_)
 refine mv_ ?_
 obtain ⟨⟨q36, q37⟩, H⟩ := if_some H
 obtain ⟨ad38, rfl⟩ := C_open (HS.getO 2 rfl) (by omega)
 refine v_ (ia_ underlying22 1 q36 q37) ?_
 refine v_ (Run.load rfl rfl underlying3 rfl (int_cell (HS.getO 2 rfl) i23 q36 q37)) ?_
 refine as_ ?_
 refine ad_ hK35 ?_
 refine WC.seq fun _ hK39 => ?_
 refine WC.drawS HS [] rfl rfl (fun w40 HS => ?_)
 have HB := Below.refl w40.heap.size w40
 have HSW := HS
 refine dm_ 0 ?_
 refine df_ 1 underlying58 ?_
 refine bl_ 2 HS (Below.refl _ _) 1 underlying22 rfl ?_
 refine dp_ 3 (fun _ => Run.len (ts := #[]) rfl underlying22 rfl) ?_
 refine dp_ 4 (fun _ => Run.bin rfl rfl rfl bin_sub64) ?_
 obtain ⟨t41, ha42, H⟩ := bind_some H
 refine dcs0_ HS HB 5 (w_none rfl) func77 (impl_in.calls (x1.f0.getD i23.toNat 0) 0 (wrap64 ((x0.f0.length : Int) - 1)) t41 _ ha42) (fun w43 HS HB => ?_)
 clear ha42
 refine dp_ 6 (fun _ => Run.not rfl rfl) ?_
 refine dm_ 7 ?_
 rcases eti_ H with ⟨c44, H⟩ | ⟨c44, H⟩
 · refine doT_ 8 (nB (bF c44)) ?_
   refine doT_ 9 (nB (bF c44)) ?_
   refine doT_ 10 (nB (bF c44)) ?_
   refine doT_ 11 (nB (bF c44)) ?_
   refine doT_ 12 (nB (bF c44)) ?_
   refine doT_ 13 (nB (bF c44)) ?_
   refine dp_ 14 (fun _ => Run.pickT rfl rfl (nB (bF c44)) rfl) ?_
   refine dm_ 15 ?_
   refine doT_ 16 rfl ?_
   refine doT_ 17 rfl ?_
   refine doT_ 18 rfl ?_
   refine doT_ 19 rfl ?_
   refine doT_ 20 rfl ?_
   refine doT_ 21 rfl ?_
   refine dp_ 22 (fun _ => Run.pickT rfl rfl rfl rfl) ?_
   refine dm_ 23 ?_
   refine doT_ 24 rfl ?_
   refine doT_ 25 rfl ?_
   refine doT_ 26 rfl ?_
   refine doT_ 27 rfl ?_
   refine doT_ 28 rfl ?_
   refine doT_ 29 rfl ?_
   refine doT_ 30 rfl ?_
   refine doT_ 31 rfl ?_
   refine doT_ 32 rfl ?_
   refine doT_ 33 rfl ?_
   refine dp_ 34 (fun _ => Run.pickT rfl rfl rfl rfl) ?_
   refine dd_ ?_
   clear HB HSW
   refine via_ hK39 (wy_ rfl ?_)
   refine sr_ fun _ hK73 => ?_
   refine ad_ hK73 ?_
   refine WC.ret ?_
   obtain rfl := os H
   rw [hG20] at Ho22
   replace H : some _ = some _ := Ho22
   obtain rfl := os H
   exact fin1 Try.f124 rfl rfl hR_ ⟨rfl, HS.b⟩
 refine dfg_ 8 (nB c44) underlying58 ?_
 refine dg_ 10 (nB c44) (fun _ => Run.move rfl rfl) ?_
 refine blg_ 9 (nB c44) HSW HB 1 underlying22 rfl ?_
 obtain ⟨⟨q45, q46⟩, H⟩ := if_some H
 obtain ⟨ad47, rfl⟩ := C_open (HS.getO 0 rfl) (by omega)
 refine dg_ 11 (nB c44) (fun _ => Run.indexAddr rfl rfl rfl underlying22 (sz := 1) (by kernel_rfl) q45 q46) ?_
 refine dh_ 12 (nB c44) HB (fun w_ hw_ => Run.load rfl rfl underlying3 rfl (int_cell ((HSW.below hw_).getO 0 rfl) (x1.f0.getD i23.toNat 0) q45 q46)) ?_
 refine dg_ 13 (nB c44) (fun _ => Run.bin rfl rfl rfl bin_eql) ?_
 refine dp_ 14 (fun _ => Run.pickF rfl rfl (nB c44) rfl) ?_
 refine dm_ 15 ?_
 rcases ite_ H with ⟨c48, H⟩ | ⟨c48, H⟩
 · refine doT_ 16 (eT c48) ?_
   refine doT_ 17 (eT c48) ?_
   refine doT_ 18 (eT c48) ?_
   refine doT_ 19 (eT c48) ?_
   refine doT_ 20 (eT c48) ?_
   refine doT_ 21 (eT c48) ?_
   refine dp_ 22 (fun _ => Run.pickT rfl rfl (eT c48) rfl) ?_
   refine dm_ 23 ?_
   refine doT_ 24 rfl ?_
   refine doT_ 25 rfl ?_
   refine doT_ 26 rfl ?_
   refine doT_ 27 rfl ?_
   refine doT_ 28 rfl ?_
   refine doT_ 29 rfl ?_
   refine doT_ 30 rfl ?_
   refine doT_ 31 rfl ?_
   refine doT_ 32 rfl ?_
   refine doT_ 33 rfl ?_
   refine dp_ 34 (fun _ => Run.pickT rfl rfl rfl rfl) ?_
   refine dd_ ?_
   clear HB HSW
   refine via_ hK39 (wy_ rfl ?_)
   refine sr_ fun _ hK49 => ?_
   refine ad_ hK49 ?_
   refine WC.ret ?_
   obtain rfl := os H
   rw [hG20] at Ho22
   replace H : some _ = some _ := Ho22
   obtain rfl := os H
   exact fin1 Try.f124 rfl rfl hR_ ⟨rfl, HS.b⟩
 refine dfg_ 16 (eF c48) underlying67 ?_
 refine dg_ 18 (eF c48) (fun _ => Run.move rfl rfl) ?_
 refine dg_ 20 (eF c48) (fun _ => Run.move rfl rfl) ?_
 refine blg_ 17 (eF c48) HSW HB 0 underlying22 rfl ?_
 obtain ⟨⟨q50, q51⟩, H⟩ := if_some H
 obtain ⟨A52, c53, he54, le55, hf56⟩ := slc_take kI (some ad38) c1_0 x1.f0 i23 q50 q51 hc1_0
 replace HS := HS.deriveO (p := (cF kI A52 (x1.f0.take i23.toNat))) (fun W_ hO_ hN_ => hf56 W_ hO_.2.2.1)
 refine dg_ 19 (eF c48) (fun _ => Run.eqv he54 (Run.slH rfl underlying22 (by kernel_rfl) rfl rfl q50 (Int.le_trans q51 (Int.ofNat_le.mpr hc1_0)))) ?_
 obtain ⟨t57, ha58, H⟩ := bind_some H
 refine dcs_ HS HB 21 (w_on rfl rfl rfl (eF c48)) func150 (slices_Contains_int_int.runs k30 A52 c53 (x1.f0.take i23.toNat) (x1.f0.getD i23.toNat 0) t57 _ (HS.getO 0 rfl) le55 ha58) (fun w59 HS HB => ?_)
 clear ha58
 refine dp_ 22 (fun _ => Run.pickF rfl rfl (eF c48) rfl) ?_
 refine dm_ 23 ?_
 rcases ite_ H with ⟨c60, H⟩ | ⟨c60, H⟩
 · refine doT_ 24 c60 ?_
   refine doT_ 25 c60 ?_
   refine doT_ 26 c60 ?_
   refine doT_ 27 c60 ?_
   refine doT_ 28 c60 ?_
   refine doT_ 29 c60 ?_
   refine doT_ 30 c60 ?_
   refine doT_ 31 c60 ?_
   refine doT_ 32 c60 ?_
   refine doT_ 33 c60 ?_
   refine dp_ 34 (fun _ => Run.pickT rfl rfl c60 rfl) ?_
   refine dd_ ?_
   clear HB HSW
   refine via_ hK39 (wy_ rfl ?_)
   refine sr_ fun _ hK61 => ?_
   refine ad_ hK61 ?_
   refine WC.ret ?_
   obtain rfl := os H
   rw [hG20] at Ho22
   replace H : some _ = some _ := Ho22
   obtain rfl := os H
   exact fin1 Try.f124 rfl rfl hR_ ⟨rfl, HS.b⟩
 refine dfg_ 24 (bF c60) underlying58 ?_
 refine dg_ 26 (bF c60) (fun _ => Run.move rfl rfl) ?_
 refine dg_ 31 (bF c60) (fun _ => Run.move rfl rfl) ?_
 refine blg_ 25 (bF c60) HSW HB 1 underlying56 rfl ?_
 obtain ⟨⟨q62, q63⟩, H⟩ := if_some H
 obtain ⟨ad64, rfl⟩ := C_open (HS.getO 2 rfl) (by omega)
 refine dg_ 27 (bF c60) (fun _ => Run.indexAddr rfl rfl rfl underlying56 (sz := 1) (by kernel_rfl) q62 q63) ?_
 obtain ⟨A65, c66, le67, HSW⟩ := HSW.slO 1 rfl (x1.f0.getD i23.toNat 0) q62 q63
 replace HS := HS.carry2O HSW HB
 refine dh_ 28 (bF c60) HB (fun w_ hw_ => Run.load rfl rfl underlying71 rfl ((HSW.below hw_).getO 1 rfl)) ?_
 refine dg_ 29 (bF c60) (fun _ => Run.len (ts := #[]) rfl underlying71 rfl) ?_
 refine dh_ 30 (bF c60) HB (fun w_ hw_ => Run.loadS (cs := [.slice (some ad38) x1.f0.length c1_0, vi x1.f1]) rfl rfl underlying67 rfl (by kernel_rfl) (box_part ((HSW.below hw_).mu 0 rfl) part_all)) ?_
 obtain ⟨t68, ha69, H⟩ := bind_some H
 refine dcs_ HS HB 32 (w_on rfl rfl rfl (bF c60)) func148 (impl_lastCells.runs k30 (⟨x1.f0, x1.f1⟩ : S67) (some ad38) c1_0 i23 t68 _ (HS.getO 5 rfl) hc1_0 ha69) (fun w70 HS HB => ?_)
 clear ha69
 refine dg_ 33 (bF c60) (fun _ => Run.bin rfl rfl rfl bin_lss) ?_
 refine dp_ 34 (fun _ => Run.pickF rfl rfl (bF c60) rfl) ?_
 refine dd_ ?_
 clear HB HSW
 refine via_ hK39 ?_
 rcases eti_ H with ⟨c71, H⟩ | ⟨c71, H⟩
 · refine wn_ (dF c71) (WC.skip (via_ hK34 (rg_ (b_ bin_add64 ?_))))
   refine mv_ ?_
   refine WL.done ?_
   exact wr_ k30 iq ⟨(wrap64 (i23 + 1)), ⟨_, H, Ho22⟩, rfl, (St.pk HS [3, 4, 5] [] rfl rfl)⟩
 refine wy_ (dT c71) (sr_ fun _ hK72 => ?_)
 refine ad_ hK72 ?_
 refine WC.ret ?_
 obtain rfl := os H
 rw [hG20] at Ho22
 replace H : some _ = some _ := Ho22
 obtain rfl := os H
 exact fin1 Try.f124 rfl rfl hR_ ⟨rfl, HS.b⟩
def impl_TableOk.g (k : Nat) (x0 : S58) (x1 : S67) : Option Bool := ((impl_StoreOk.g k (⟨x0.f0, x0.f1⟩ : S58)).bind fun t7 => (if t7 = true then ((impl_tableOk.g k (⟨x0.f0, x0.f1⟩ : S58) (⟨x1.f0, x1.f1⟩ : S67)).bind fun t11 => (some t11)) else (some false)))
theorem impl_TableOk.runs (k : Nat) (x0 : S58) (A0_0 : Option Addr) (c0_0 : Nat) (A0_1 : Option Addr) (c0_1 : Nat) (x1 : S67) (A1_0 : Option Addr) (c1_0 : Nat) (r : Bool) (w : World) (hr0_0 : kI.C w A0_0 x0.f0.length x0.f0) (hc0_0 : x0.f0.length ≤ c0_0) (hr0_1 : kS62.C w A0_1 x0.f1.length x0.f1) (hc0_1 : x0.f1.length ≤ c0_1) (hr1_0 : kI.C w A1_0 x1.f0.length x1.f0) (hc1_0 : x1.f0.length ≤ c1_0) (H : impl_TableOk.g k x0 x1 = some r) :
   Calls prog 57 #[.agg #[.slice A0_0 x0.f0.length c0_0, .slice A0_1 x0.f1.length c0_1], .agg #[.slice A1_0 x1.f0.length c1_0, vi x1.f1]] w fun e w' => e = .returned (.bool r) ∧ Below w.heap.size w w' := by
 unfold impl_TableOk.g at H
 have HS : St (fun _ => True) w w [] [(cF kI A0_0 x0.f0), (cF kS62 A0_1 x0.f1), (cF kI A1_0 x1.f0)] [] := St.start (foot_cons (foot_C (Kd.heap_int _) hr0_0) (foot_cons (foot_C (Kd.heap_slice _ h62) hr0_1) (foot_cons (foot_C (Kd.heap_int _) hr1_0) foot_nil)))
 refine cw_ (n := 12) func57 fun R_ hR_ => ?_
 refine sr_ fun _ hK1 => ?_
 refine bo_ HS (fun b2 w3 hb2 HS => ?_)
 refine bo_ HS (fun b4 w5 hb4 HS => ?_)
 refine ad_ hK1 ?_
 refine sr_ fun _ hK6 => ?_
 refine v_ (ls_ (HS.mu 1 rfl) underlying58 part_all) ?_
 obtain ⟨t7, ha8, H⟩ := bind_some H
 refine cs_ HS func47 (impl_StoreOk.runs k (⟨x0.f0, x0.f1⟩ : S58) A0_0 c0_0 A0_1 c0_1 t7 _ (HS.getO 0 rfl) hc0_0 (HS.getO 1 rfl) hc0_1 ha8) (fun w9 HS => ?_)
 clear ha8
 refine mv_ ?_
 rcases eti_ H with ⟨c10, H⟩ | ⟨c10, H⟩
 · refine off_ (c' := false) (bF c10) ?_
   refine WL.know 7 (bF c10) ?_
   refine fast_ ?_
   refine via_ hK6 ?_
   obtain rfl := os H
   exact rt1 Try.f57 rfl rfl hR_ ⟨rfl, HS.b⟩
 refine on_ c10 ?_
 refine v_ (ls_ (HS.mu 1 rfl) underlying58 part_all) ?_
 refine on_ c10 ?_
 refine v_ (ls_ (HS.mu 0 rfl) underlying67 part_all) ?_
 refine on_ c10 ?_
 obtain ⟨t11, ha12, H⟩ := bind_some H
 refine cs_ HS func124 (impl_tableOk.runs k (⟨x0.f0, x0.f1⟩ : S58) A0_0 c0_0 A0_1 c0_1 (⟨x1.f0, x1.f1⟩ : S67) A1_0 c1_0 t11 _ (HS.getO 0 rfl) hc0_0 (HS.getO 1 rfl) hc0_1 (HS.getO 2 rfl) hc1_0 ha12) (fun w13 HS => ?_)
 clear ha12
 refine v_ (Run.pickT rfl rfl c10 rfl) ?_
 refine ad_ hK6 ?_
 obtain rfl := os H
 exact rt1 Try.f57 rfl rfl hR_ ⟨rfl, HS.b⟩
def laws_eqIntS.b0 (l0 : List Int) (l1 : List Int) (rec_ : Int → Option (Bool ⊕ Int)) (k18 : Nat) (i11 : Int) : Option (Bool ⊕ Int) := (if i11 < (l0.length : Int) then (if 0 ≤ i11 ∧ i11 < (l0.length : Int) then (if 0 ≤ i11 ∧ i11 < (l1.length : Int) then (if (l0.getD i11.toNat 0) = (l1.getD i11.toNat 0) then (rec_ (wrap64 (i11 + 1))) else (some (Sum.inl false))) else none) else none) else (some (Sum.inr i11)))
def laws_eqIntS.l0 (l0 : List Int) (l1 : List Int) : Nat → Int → Option (Bool ⊕ Int)
 | 0, _ => none
 | k + 1, i11 => laws_eqIntS.b0 l0 l1 (laws_eqIntS.l0 l0 l1 k) k i11
def laws_eqIntS.g (k : Nat) (l0 : List Int) (l1 : List Int) : Option Bool := (if (l0.length : Int) = (l1.length : Int) then ((laws_eqIntS.l0 l0 l1 k 0).bind (fun oc16 => match oc16 with | .inl r_ => some r_ | .inr i11 => (some true))) else (some false))
theorem laws_eqIntS.runs (k : Nat) (A0 : Option Addr) (c0 : Nat) (l0 : List Int) (A1 : Option Addr) (c1 : Nat) (l1 : List Int) (r : Bool) (w : World) (hr0 : kI.C w A0 l0.length l0) (hc0 : l0.length ≤ c0) (hr1 : kI.C w A1 l1.length l1) (hc1 : l1.length ≤ c1) (H : laws_eqIntS.g k l0 l1 = some r) :
   Calls prog 19 #[.slice A0 l0.length c0, .slice A1 l1.length c1] w fun e w' => e = .returned (.bool r) ∧ Below w.heap.size w w' := by
 unfold laws_eqIntS.g at H
 have HS : St (fun _ => True) w w [] [(cF kI A0 l0), (cF kI A1 l1)] [] := St.start (foot_cons (foot_C (Kd.heap_int _) hr0) (foot_cons (foot_C (Kd.heap_int _) hr1) foot_nil))
 refine cw_ (n := 26) func19 fun R_ hR_ => ?_
 refine sr_ fun _ hK1 => ?_
 refine ad_ hK1 ?_
 refine WC.seq fun _ hK2 => ?_
 refine sr_ fun _ hK3 => ?_
 refine mv_ ?_
 refine ln_ underlying22 ?_
 refine mv_ ?_
 refine ln_ underlying22 ?_
 refine b_ bin_neq ?_
 refine dn_ hK3 ?_
 rcases eti_ H with ⟨c4, H⟩ | ⟨c4, H⟩
 · refine wy_ (qT c4) (sr_ fun _ hK33 => ?_)
   refine ad_ hK33 ?_
   obtain rfl := os H
   exact rt1 Try.f19 rfl rfl hR_ ⟨rfl, HS.b⟩
 refine wn_ (qF c4) (WC.skip (via_ hK2 (WC.seq fun K5 hK5 => ?_)))
 refine sr_ fun _ hK6 => ?_
 refine ad_ hK6 ?_
 refine WC.block ?_
 obtain ⟨G7, hG8, oc9, H, Ho10⟩ := open_G H
 let J12 := fun (i11 : Int) (E_ : Env) (W_ : World) => E_ = [(0, .slice A0 l0.length c0), (1, .slice A1 l1.length c1), (5, vi i11)] ∧ St (fun _ => True) w W_ [] [(cF kI A0 l0), (cF kI A1 l1)] []
 have X13 : ∀ E_ W_, (∃ i11, G7 (Sum.inr i11) = some r ∧ J12 i11 E_ W_) → ∀ a, Fits a 26 E_ → K5 a W_ := by
   rintro E_ w14 ⟨i11, H, rfl, HS⟩
   rw [hG8] at H
   (try dsimp only at H)
   refine hK5 _ _ ?_
   refine sr_ fun _ hK15 => ?_
   refine ad_ hK15 ?_
   obtain rfl := os H
   exact rt1 Try.f19 rfl rfl hR_ ⟨rfl, HS.b⟩
 clear hK5
 refine WC.loop (fun k_ E_ W_ => ∃ i11, (∃ o_, laws_eqIntS.l0 l0 l1 k_ i11 = some o_ ∧ G7 o_ = some r) ∧ J12 i11 E_ W_) k ⟨0, ⟨_, H, Ho10⟩, rfl, HS⟩ (sb rfl) ?_
 rintro k_ E_ w17 ⟨i11, ⟨oc9, H, Ho10⟩, rfl, HS⟩
 rcases k_ with _ | k18
 · exact no_ H
 replace H : laws_eqIntS.b0 l0 l1 (laws_eqIntS.l0 l0 l1 k18) k18 i11 = some oc9 := H
 unfold laws_eqIntS.b0 at H
 refine WC.seq fun _ hK19 => ?_
 refine sr_ fun _ hK20 => ?_
 refine mv_ ?_
 refine mv_ ?_
 refine ln_ underlying22 ?_
 refine b_ bin_lss ?_
 refine dn_ hK20 ?_
 rcases eti_ H with ⟨c21, H⟩ | ⟨c21, H⟩
 · refine wn_ (dF c21) (WC.exit ?_)
   obtain rfl := os H
   exact wv_ iq X13 ⟨i11, Ho10, rfl, HS⟩
 refine wy_ (dT c21) (WC.skip (via_ hK19 (WC.seq fun _ hK22 => ?_)))
 refine WC.block (WC.seq fun _ hK23 => ?_)
 refine WC.drawS HS [] rfl rfl (fun w24 HS => ?_)
 have HB := Below.refl w24.heap.size w24
 have HSW := HS
 refine dm_ 0 ?_
 refine dm_ 1 ?_
 obtain ⟨⟨q25, q26⟩, H⟩ := if_some H
 obtain ⟨ad27, rfl⟩ := C_open (HS.getO 0 rfl) (by omega)
 refine di_ 2 underlying22 1 q25 q26 ?_
 refine dm_ 4 ?_
 refine dm_ 5 ?_
 obtain ⟨⟨q28, q29⟩, H⟩ := if_some H
 obtain ⟨ad30, rfl⟩ := C_open (HS.getO 1 rfl) (by omega)
 refine di_ 6 underlying22 1 q28 q29 ?_
 refine dt_ 3 (Below.refl _ _) (fun w_ hw_ => Run.load rfl rfl underlying3 rfl (int_cell ((HS.below hw_).getO 0 rfl) i11 q25 q26)) ?_
 refine dt_ 7 (Below.refl _ _) (fun w_ hw_ => Run.load rfl rfl underlying3 rfl (int_cell ((HS.below hw_).getO 1 rfl) i11 q28 q29)) ?_
 refine dp_ 8 (fun _ => Run.bin rfl rfl rfl bin_neq) ?_
 refine dd_ ?_
 clear HB HSW
 refine via_ hK23 ?_
 rcases ite_ H with ⟨c31, H⟩ | ⟨c31, H⟩
 · refine wn_ (qF c31) (WC.skip (via_ hK22 (rg_ (mv_ ?_))))
   refine b_ bin_add64 ?_
   refine as_ ?_
   refine WL.done ?_
   exact wr_ k18 iq ⟨(wrap64 (i11 + 1)), ⟨_, H, Ho10⟩, rfl, HS⟩
 refine wy_ (qT c31) (sr_ fun _ hK32 => ?_)
 refine ad_ hK32 ?_
 refine WC.ret ?_
 obtain rfl := os H
 rw [hG8] at Ho10
 replace H : some _ = some _ := Ho10
 obtain rfl := os H
 exact fin1 Try.f19 rfl rfl hR_ ⟨rfl, HS.b⟩
def laws_eqPart.g (k : Nat) (x0 : S149) (x1 : S149) : Option Bool := (if x0.f0 = x1.f0 then ((laws_eqIntS.g k x0.f1 x1.f1).bind fun t11 => (if t11 = true then (some true) else (some false))) else (some false))
theorem laws_eqPart.runs (k : Nat) (x0 : S149) (A0_1 : Option Addr) (c0_1 : Nat) (x1 : S149) (A1_1 : Option Addr) (c1_1 : Nat) (r : Bool) (w : World) (hr0_1 : kI.C w A0_1 x0.f1.length x0.f1) (hc0_1 : x0.f1.length ≤ c0_1) (hr1_1 : kI.C w A1_1 x1.f1.length x1.f1) (hc1_1 : x1.f1.length ≤ c1_1) (H : laws_eqPart.g k x0 x1 = some r) :
   Calls prog 164 #[.agg #[vi x0.f0, .slice A0_1 x0.f1.length c0_1], .agg #[vi x1.f0, .slice A1_1 x1.f1.length c1_1]] w fun e w' => e = .returned (.bool r) ∧ Below w.heap.size w w' := by
 unfold laws_eqPart.g at H
 have HS : St (fun _ => True) w w [] [(cF kI A0_1 x0.f1), (cF kI A1_1 x1.f1)] [] := St.start (foot_cons (foot_C (Kd.heap_int _) hr0_1) (foot_cons (foot_C (Kd.heap_int _) hr1_1) foot_nil))
 refine cw_ (n := 16) func164 fun R_ hR_ => ?_
 refine sr_ fun _ hK1 => ?_
 refine bo_ HS (fun b2 w3 hb2 HS => ?_)
 refine bo_ HS (fun b4 w5 hb4 HS => ?_)
 refine ad_ hK1 ?_
 refine WC.seq fun _ hK6 => ?_
 refine sr_ fun _ hK7 => ?_
 refine v_ (fa_ underlying149) ?_
 refine v_ (lb_ (HS.mu 1 rfl) underlying3 rfl) ?_
 refine v_ (fa_ underlying149) ?_
 refine v_ (lb_ (HS.mu 0 rfl) underlying3 rfl) ?_
 refine b_ bin_neq ?_
 refine dn_ hK7 ?_
 rcases eti_ H with ⟨c8, H⟩ | ⟨c8, H⟩
 · refine wy_ (qT c8) (sr_ fun _ hK17 => ?_)
   refine ad_ hK17 ?_
   obtain rfl := os H
   exact rt1 Try.f164 rfl rfl hR_ ⟨rfl, HS.b⟩
 refine wn_ (qF c8) (WC.skip (via_ hK6 (WC.seq fun _ hK9 => ?_)))
 refine sr_ fun _ hK10 => ?_
 refine v_ (fa_ underlying149) ?_
 refine v_ (lb_ (HS.mu 1 rfl) underlying22 rfl) ?_
 refine v_ (fa_ underlying149) ?_
 refine v_ (lb_ (HS.mu 0 rfl) underlying22 rfl) ?_
 obtain ⟨t11, ha12, H⟩ := bind_some H
 refine cs_ HS func19 (laws_eqIntS.runs k A0_1 c0_1 x0.f1 A1_1 c1_1 x1.f1 t11 _ (HS.getO 0 rfl) hc0_1 (HS.getO 1 rfl) hc1_1 ha12) (fun w13 HS => ?_)
 clear ha12
 refine nt_ ?_
 refine dn_ hK10 ?_
 rcases eti_ H with ⟨c14, H⟩ | ⟨c14, H⟩
 · refine wy_ (nB (bF c14)) (sr_ fun _ hK16 => ?_)
   refine ad_ hK16 ?_
   obtain rfl := os H
   exact rt1 Try.f164 rfl rfl hR_ ⟨rfl, HS.b⟩
 refine wn_ (nB c14) (WC.skip (via_ hK9 (sr_ fun _ hK15 => ?_)))
 refine ad_ hK15 ?_
 obtain rfl := os H
 exact rt1 Try.f164 rfl rfl hR_ ⟨rfl, HS.b⟩
def laws_eqPartS.b0 (l0 : List S149) (l1 : List S149) (rec_ : Int → Option (Bool ⊕ Int)) (k18 : Nat) (i11 : Int) : Option (Bool ⊕ Int) := (if i11 < (l0.length : Int) then (if 0 ≤ i11 ∧ i11 < (l0.length : Int) then (if 0 ≤ i11 ∧ i11 < (l1.length : Int) then ((laws_eqPart.g k18 (l0.getD i11.toNat o149) (l1.getD i11.toNat o149)).bind fun t43 => (if t43 = true then (rec_ (wrap64 (i11 + 1))) else (some (Sum.inl false)))) else none) else none) else (some (Sum.inr i11)))
def laws_eqPartS.l0 (l0 : List S149) (l1 : List S149) : Nat → Int → Option (Bool ⊕ Int)
 | 0, _ => none
 | k + 1, i11 => laws_eqPartS.b0 l0 l1 (laws_eqPartS.l0 l0 l1 k) k i11
def laws_eqPartS.g (k : Nat) (l0 : List S149) (l1 : List S149) : Option Bool := (if (l0.length : Int) = (l1.length : Int) then ((laws_eqPartS.l0 l0 l1 k 0).bind (fun oc16 => match oc16 with | .inl r_ => some r_ | .inr i11 => (some true))) else (some false))
theorem laws_eqPartS.runs (k : Nat) (A0 : Option Addr) (c0 : Nat) (l0 : List S149) (A1 : Option Addr) (c1 : Nat) (l1 : List S149) (r : Bool) (w : World) (hr0 : k149.C w A0 l0.length l0) (hc0 : l0.length ≤ c0) (hr1 : k149.C w A1 l1.length l1) (hc1 : l1.length ≤ c1) (H : laws_eqPartS.g k l0 l1 = some r) :
   Calls prog 157 #[.slice A0 l0.length c0, .slice A1 l1.length c1] w fun e w' => e = .returned (.bool r) ∧ Below w.heap.size w w' := by
 unfold laws_eqPartS.g at H
 have HS : St (fun _ => True) w w [] [(cF k149 A0 l0), (cF k149 A1 l1)] [] := St.start (foot_cons (foot_C h149 hr0) (foot_cons (foot_C h149 hr1) foot_nil))
 refine cw_ (n := 27) func157 fun R_ hR_ => ?_
 refine sr_ fun _ hK1 => ?_
 refine ad_ hK1 ?_
 refine WC.seq fun _ hK2 => ?_
 refine sr_ fun _ hK3 => ?_
 refine mv_ ?_
 refine ln_ underlying133 ?_
 refine mv_ ?_
 refine ln_ underlying133 ?_
 refine b_ bin_neq ?_
 refine dn_ hK3 ?_
 rcases eti_ H with ⟨c4, H⟩ | ⟨c4, H⟩
 · refine wy_ (qT c4) (sr_ fun _ hK48 => ?_)
   refine ad_ hK48 ?_
   obtain rfl := os H
   exact rt1 Try.f157 rfl rfl hR_ ⟨rfl, HS.b⟩
 refine wn_ (qF c4) (WC.skip (via_ hK2 (WC.seq fun K5 hK5 => ?_)))
 refine sr_ fun _ hK6 => ?_
 refine ad_ hK6 ?_
 refine WC.block ?_
 obtain ⟨G7, hG8, oc9, H, Ho10⟩ := open_G H
 let J12 := fun (i11 : Int) (E_ : Env) (W_ : World) => E_ = [(0, .slice A0 l0.length c0), (1, .slice A1 l1.length c1), (5, vi i11)] ∧ St (fun _ => True) w W_ [] [(cF k149 A0 l0), (cF k149 A1 l1)] []
 have X13 : ∀ E_ W_, (∃ i11, G7 (Sum.inr i11) = some r ∧ J12 i11 E_ W_) → ∀ a, Fits a 27 E_ → K5 a W_ := by
   rintro E_ w14 ⟨i11, H, rfl, HS⟩
   rw [hG8] at H
   (try dsimp only at H)
   refine hK5 _ _ ?_
   refine sr_ fun _ hK15 => ?_
   refine ad_ hK15 ?_
   obtain rfl := os H
   exact rt1 Try.f157 rfl rfl hR_ ⟨rfl, HS.b⟩
 clear hK5
 refine WC.loop (fun k_ E_ W_ => ∃ i11, (∃ o_, laws_eqPartS.l0 l0 l1 k_ i11 = some o_ ∧ G7 o_ = some r) ∧ J12 i11 E_ W_) k ⟨0, ⟨_, H, Ho10⟩, rfl, HS⟩ (sb rfl) ?_
 rintro k_ E_ w17 ⟨i11, ⟨oc9, H, Ho10⟩, rfl, HS⟩
 rcases k_ with _ | k18
 · exact no_ H
 replace H : laws_eqPartS.b0 l0 l1 (laws_eqPartS.l0 l0 l1 k18) k18 i11 = some oc9 := H
 unfold laws_eqPartS.b0 at H
 refine WC.seq fun _ hK19 => ?_
 refine sr_ fun _ hK20 => ?_
 refine mv_ ?_
 refine mv_ ?_
 refine ln_ underlying133 ?_
 refine b_ bin_lss ?_
 refine dn_ hK20 ?_
 rcases eti_ H with ⟨c21, H⟩ | ⟨c21, H⟩
 · refine wn_ (dF c21) (WC.exit ?_)
   obtain rfl := os H
   exact wv_ iq X13 ⟨i11, Ho10, rfl, HS⟩
 refine wy_ (dT c21) (WC.skip (via_ hK19 (WC.seq fun _ hK22 => ?_)))
 refine WC.block (WC.seq fun _ hK23 => ?_)
 refine WC.drawS HS [] rfl rfl (fun w24 HS => ?_)
 have HB := Below.refl w24.heap.size w24
 have HSW := HS
 refine dm_ 0 ?_
 refine dm_ 1 ?_
 obtain ⟨⟨q25, q26⟩, H⟩ := if_some H
 obtain ⟨ad27, rfl⟩ := C_open (HS.getO 0 rfl) (by omega)
 refine di_ 2 underlying133 2 q25 q26 ?_
 refine dm_ 4 ?_
 refine dm_ 5 ?_
 obtain ⟨⟨q28, q29⟩, H⟩ := if_some H
 obtain ⟨ad30, rfl⟩ := C_open (HS.getO 1 rfl) (by omega)
 refine di_ 6 underlying133 2 q28 q29 ?_
 obtain ⟨e31, el32, HS⟩ := HS.elO 0 rfl (by decide) o149 i11 q25 q26
 replace HSW := HS
 obtain ⟨A33, c34, hc35, le36, HS⟩ := HS.eO 0 rfl at149_1
 refine dt_ 3 (Below.refl _ _) (fun w_ hw_ => Run.loadS (cs := [vi ((l0.getD i11.toNat o149).f0), .slice A33 ((l0.getD i11.toNat o149).f1.length) c34]) rfl rfl underlying149 rfl (by kernel_rfl) (cells_part ((HS.below hw_).getO 1 rfl).2 (part_cons (at149_0 (AtK.whole ((HS.below hw_).getO 1 rfl).1)).int (part_cons hc35 part_nil)))) ?_
 obtain ⟨e37, el38, HS⟩ := HS.elO 3 rfl (by decide) o149 i11 q28 q29
 replace HSW := HS
 obtain ⟨A39, c40, hc41, le42, HS⟩ := HS.eO 0 rfl at149_1
 refine dt_ 7 (Below.refl _ _) (fun w_ hw_ => Run.loadS (cs := [vi ((l1.getD i11.toNat o149).f0), .slice A39 ((l1.getD i11.toNat o149).f1.length) c40]) rfl rfl underlying149 rfl (by kernel_rfl) (cells_part ((HS.below hw_).getO 1 rfl).2 (part_cons (at149_0 (AtK.whole ((HS.below hw_).getO 1 rfl).1)).int (part_cons hc41 part_nil)))) ?_
 obtain ⟨t43, ha44, H⟩ := bind_some H
 refine dcs_ HS HB 8 (w_none rfl) func164 (laws_eqPart.runs k18 (l0.getD i11.toNat o149) A33 c34 (l1.getD i11.toNat o149) A39 c40 t43 _ (HS.getO 2 rfl) le36 (HS.getO 0 rfl) le42 ha44) (fun w45 HS HB => ?_)
 clear ha44
 refine dp_ 9 (fun _ => Run.not rfl rfl) ?_
 refine dd_ ?_
 clear HB HSW
 refine via_ hK23 ?_
 rcases ite_ H with ⟨c46, H⟩ | ⟨c46, H⟩
 · refine wn_ (nB c46) (WC.skip (via_ hK22 (rg_ (mv_ ?_))))
   refine b_ bin_add64 ?_
   refine as_ ?_
   refine WL.done ?_
   exact wr_ k18 iq ⟨(wrap64 (i11 + 1)), ⟨_, H, Ho10⟩, rfl, (St.pk HS [4, 5] [] rfl rfl)⟩
 refine wy_ (nB (bF c46)) (sr_ fun _ hK47 => ?_)
 refine ad_ hK47 ?_
 refine WC.ret ?_
 obtain rfl := os H
 rw [hG8] at Ho10
 replace H : some _ = some _ := Ho10
 obtain rfl := os H
 exact fin1 Try.f157 rfl rfl hR_ ⟨rfl, HS.b⟩
def laws_eqPartSS.b0 (l0 : List (List S149)) (l1 : List (List S149)) (rec_ : Int → Option (Bool ⊕ Int)) (k18 : Nat) (i11 : Int) : Option (Bool ⊕ Int) := (if i11 < (l0.length : Int) then (if 0 ≤ i11 ∧ i11 < (l0.length : Int) then (if 0 ≤ i11 ∧ i11 < (l1.length : Int) then ((laws_eqPartS.g k18 (l0.getD i11.toNat []) (l1.getD i11.toNat [])).bind fun t37 => (if t37 = true then (rec_ (wrap64 (i11 + 1))) else (some (Sum.inl false)))) else none) else none) else (some (Sum.inr i11)))
def laws_eqPartSS.l0 (l0 : List (List S149)) (l1 : List (List S149)) : Nat → Int → Option (Bool ⊕ Int)
 | 0, _ => none
 | k + 1, i11 => laws_eqPartSS.b0 l0 l1 (laws_eqPartSS.l0 l0 l1 k) k i11
def laws_eqPartSS.g (k : Nat) (l0 : List (List S149)) (l1 : List (List S149)) : Option Bool := (if (l0.length : Int) = (l1.length : Int) then ((laws_eqPartSS.l0 l0 l1 k 0).bind (fun oc16 => match oc16 with | .inl r_ => some r_ | .inr i11 => (some true))) else (some false))
theorem laws_eqPartSS.runs (k : Nat) (A0 : Option Addr) (c0 : Nat) (l0 : List (List S149)) (A1 : Option Addr) (c1 : Nat) (l1 : List (List S149)) (r : Bool) (w : World) (hr0 : kS149.C w A0 l0.length l0) (hc0 : l0.length ≤ c0) (hr1 : kS149.C w A1 l1.length l1) (hc1 : l1.length ≤ c1) (H : laws_eqPartSS.g k l0 l1 = some r) :
   Calls prog 135 #[.slice A0 l0.length c0, .slice A1 l1.length c1] w fun e w' => e = .returned (.bool r) ∧ Below w.heap.size w w' := by
 unfold laws_eqPartSS.g at H
 have HS : St (fun _ => True) w w [] [(cF kS149 A0 l0), (cF kS149 A1 l1)] [] := St.start (foot_cons (foot_C (Kd.heap_slice _ h149) hr0) (foot_cons (foot_C (Kd.heap_slice _ h149) hr1) foot_nil))
 refine cw_ (n := 27) func135 fun R_ hR_ => ?_
 refine sr_ fun _ hK1 => ?_
 refine ad_ hK1 ?_
 refine WC.seq fun _ hK2 => ?_
 refine sr_ fun _ hK3 => ?_
 refine mv_ ?_
 refine ln_ underlying60 ?_
 refine mv_ ?_
 refine ln_ underlying60 ?_
 refine b_ bin_neq ?_
 refine dn_ hK3 ?_
 rcases eti_ H with ⟨c4, H⟩ | ⟨c4, H⟩
 · refine wy_ (qT c4) (sr_ fun _ hK42 => ?_)
   refine ad_ hK42 ?_
   obtain rfl := os H
   exact rt1 Try.f135 rfl rfl hR_ ⟨rfl, HS.b⟩
 refine wn_ (qF c4) (WC.skip (via_ hK2 (WC.seq fun K5 hK5 => ?_)))
 refine sr_ fun _ hK6 => ?_
 refine ad_ hK6 ?_
 refine WC.block ?_
 obtain ⟨G7, hG8, oc9, H, Ho10⟩ := open_G H
 let J12 := fun (i11 : Int) (E_ : Env) (W_ : World) => E_ = [(0, .slice A0 l0.length c0), (1, .slice A1 l1.length c1), (5, vi i11)] ∧ St (fun _ => True) w W_ [] [(cF kS149 A0 l0), (cF kS149 A1 l1)] []
 have X13 : ∀ E_ W_, (∃ i11, G7 (Sum.inr i11) = some r ∧ J12 i11 E_ W_) → ∀ a, Fits a 27 E_ → K5 a W_ := by
   rintro E_ w14 ⟨i11, H, rfl, HS⟩
   rw [hG8] at H
   (try dsimp only at H)
   refine hK5 _ _ ?_
   refine sr_ fun _ hK15 => ?_
   refine ad_ hK15 ?_
   obtain rfl := os H
   exact rt1 Try.f135 rfl rfl hR_ ⟨rfl, HS.b⟩
 clear hK5
 refine WC.loop (fun k_ E_ W_ => ∃ i11, (∃ o_, laws_eqPartSS.l0 l0 l1 k_ i11 = some o_ ∧ G7 o_ = some r) ∧ J12 i11 E_ W_) k ⟨0, ⟨_, H, Ho10⟩, rfl, HS⟩ (sb rfl) ?_
 rintro k_ E_ w17 ⟨i11, ⟨oc9, H, Ho10⟩, rfl, HS⟩
 rcases k_ with _ | k18
 · exact no_ H
 replace H : laws_eqPartSS.b0 l0 l1 (laws_eqPartSS.l0 l0 l1 k18) k18 i11 = some oc9 := H
 unfold laws_eqPartSS.b0 at H
 refine WC.seq fun _ hK19 => ?_
 refine sr_ fun _ hK20 => ?_
 refine mv_ ?_
 refine mv_ ?_
 refine ln_ underlying60 ?_
 refine b_ bin_lss ?_
 refine dn_ hK20 ?_
 rcases eti_ H with ⟨c21, H⟩ | ⟨c21, H⟩
 · refine wn_ (dF c21) (WC.exit ?_)
   obtain rfl := os H
   exact wv_ iq X13 ⟨i11, Ho10, rfl, HS⟩
 refine wy_ (dT c21) (WC.skip (via_ hK19 (WC.seq fun _ hK22 => ?_)))
 refine WC.block (WC.seq fun _ hK23 => ?_)
 refine WC.drawS HS [] rfl rfl (fun w24 HS => ?_)
 have HB := Below.refl w24.heap.size w24
 have HSW := HS
 refine dm_ 0 ?_
 refine dm_ 1 ?_
 obtain ⟨⟨q25, q26⟩, H⟩ := if_some H
 obtain ⟨ad27, rfl⟩ := C_open (HS.getO 0 rfl) (by omega)
 refine di_ 2 underlying60 1 q25 q26 ?_
 refine dm_ 4 ?_
 refine dm_ 5 ?_
 obtain ⟨⟨q28, q29⟩, H⟩ := if_some H
 obtain ⟨ad30, rfl⟩ := C_open (HS.getO 1 rfl) (by omega)
 refine di_ 6 underlying60 1 q28 q29 ?_
 obtain ⟨A31, c32, le33, HS⟩ := HS.slO 0 rfl i11 q25 q26
 replace HSW := HS
 refine dt_ 3 (Below.refl _ _) (fun w_ hw_ => Run.load rfl rfl underlying133 rfl ((HS.below hw_).getO 1 rfl)) ?_
 obtain ⟨A34, c35, le36, HS⟩ := HS.slO 3 rfl i11 q28 q29
 replace HSW := HS
 refine dt_ 7 (Below.refl _ _) (fun w_ hw_ => Run.load rfl rfl underlying133 rfl ((HS.below hw_).getO 1 rfl)) ?_
 obtain ⟨t37, ha38, H⟩ := bind_some H
 refine dcs_ HS HB 8 (w_none rfl) func157 (laws_eqPartS.runs k18 A31 c32 (l0.getD i11.toNat []) A34 c35 (l1.getD i11.toNat []) t37 _ (HS.getO 2 rfl) le33 (HS.getO 0 rfl) le36 ha38) (fun w39 HS HB => ?_)
 clear ha38
 refine dp_ 9 (fun _ => Run.not rfl rfl) ?_
 refine dd_ ?_
 clear HB HSW
 refine via_ hK23 ?_
 rcases ite_ H with ⟨c40, H⟩ | ⟨c40, H⟩
 · refine wn_ (nB c40) (WC.skip (via_ hK22 (rg_ (mv_ ?_))))
   refine b_ bin_add64 ?_
   refine as_ ?_
   refine WL.done ?_
   exact wr_ k18 iq ⟨(wrap64 (i11 + 1)), ⟨_, H, Ho10⟩, rfl, (St.pk HS [4, 5] [] rfl rfl)⟩
 refine wy_ (nB (bF c40)) (sr_ fun _ hK41 => ?_)
 refine ad_ hK41 ?_
 refine WC.ret ?_
 obtain rfl := os H
 rw [hG8] at Ho10
 replace H : some _ = some _ := Ho10
 obtain rfl := os H
 exact fin1 Try.f135 rfl rfl hR_ ⟨rfl, HS.b⟩
def laws_eqCell.g (k : Nat) (x0 : S62) (x1 : S62) : Option Bool := ((laws_eqPartSS.g k x0.f0 x1.f0).bind fun t8 => (if t8 = true then ((laws_eqPartSS.g k x0.f1 x1.f1).bind fun t14 => (if t14 = true then (some true) else (some false))) else (some false)))
theorem laws_eqCell.runs (k : Nat) (x0 : S62) (A0_0 : Option Addr) (c0_0 : Nat) (A0_1 : Option Addr) (c0_1 : Nat) (x1 : S62) (A1_0 : Option Addr) (c1_0 : Nat) (A1_1 : Option Addr) (c1_1 : Nat) (r : Bool) (w : World) (hr0_0 : kS149.C w A0_0 x0.f0.length x0.f0) (hc0_0 : x0.f0.length ≤ c0_0) (hr0_1 : kS149.C w A0_1 x0.f1.length x0.f1) (hc0_1 : x0.f1.length ≤ c0_1) (hr1_0 : kS149.C w A1_0 x1.f0.length x1.f0) (hc1_0 : x1.f0.length ≤ c1_0) (hr1_1 : kS149.C w A1_1 x1.f1.length x1.f1) (hc1_1 : x1.f1.length ≤ c1_1) (H : laws_eqCell.g k x0 x1 = some r) :
   Calls prog 75 #[.agg #[.slice A0_0 x0.f0.length c0_0, .slice A0_1 x0.f1.length c0_1], .agg #[.slice A1_0 x1.f0.length c1_0, .slice A1_1 x1.f1.length c1_1]] w fun e w' => e = .returned (.bool r) ∧ Below w.heap.size w w' := by
 unfold laws_eqCell.g at H
 have HS : St (fun _ => True) w w [] [(cF kS149 A0_0 x0.f0), (cF kS149 A0_1 x0.f1), (cF kS149 A1_0 x1.f0), (cF kS149 A1_1 x1.f1)] [] := St.start (foot_cons (foot_C (Kd.heap_slice _ h149) hr0_0) (foot_cons (foot_C (Kd.heap_slice _ h149) hr0_1) (foot_cons (foot_C (Kd.heap_slice _ h149) hr1_0) (foot_cons (foot_C (Kd.heap_slice _ h149) hr1_1) foot_nil))))
 refine cw_ (n := 17) func75 fun R_ hR_ => ?_
 refine sr_ fun _ hK1 => ?_
 refine bo_ HS (fun b2 w3 hb2 HS => ?_)
 refine bo_ HS (fun b4 w5 hb4 HS => ?_)
 refine ad_ hK1 ?_
 refine WC.seq fun _ hK6 => ?_
 refine sr_ fun _ hK7 => ?_
 refine v_ (fa_ underlying62) ?_
 refine v_ (lb_ (HS.mu 1 rfl) underlying60 rfl) ?_
 refine v_ (fa_ underlying62) ?_
 refine v_ (lb_ (HS.mu 0 rfl) underlying60 rfl) ?_
 obtain ⟨t8, ha9, H⟩ := bind_some H
 refine cs_ HS func135 (laws_eqPartSS.runs k A0_0 c0_0 x0.f0 A1_0 c1_0 x1.f0 t8 _ (HS.getO 0 rfl) hc0_0 (HS.getO 2 rfl) hc1_0 ha9) (fun w10 HS => ?_)
 clear ha9
 refine nt_ ?_
 refine dn_ hK7 ?_
 rcases eti_ H with ⟨c11, H⟩ | ⟨c11, H⟩
 · refine wy_ (nB (bF c11)) (sr_ fun _ hK20 => ?_)
   refine ad_ hK20 ?_
   obtain rfl := os H
   exact rt1 Try.f75 rfl rfl hR_ ⟨rfl, HS.b⟩
 refine wn_ (nB c11) (WC.skip (via_ hK6 (WC.seq fun _ hK12 => ?_)))
 refine sr_ fun _ hK13 => ?_
 refine v_ (fa_ underlying62) ?_
 refine v_ (lb_ (HS.mu 1 rfl) underlying60 rfl) ?_
 refine v_ (fa_ underlying62) ?_
 refine v_ (lb_ (HS.mu 0 rfl) underlying60 rfl) ?_
 obtain ⟨t14, ha15, H⟩ := bind_some H
 refine cs_ HS func135 (laws_eqPartSS.runs k A0_1 c0_1 x0.f1 A1_1 c1_1 x1.f1 t14 _ (HS.getO 1 rfl) hc0_1 (HS.getO 3 rfl) hc1_1 ha15) (fun w16 HS => ?_)
 clear ha15
 refine nt_ ?_
 refine dn_ hK13 ?_
 rcases eti_ H with ⟨c17, H⟩ | ⟨c17, H⟩
 · refine wy_ (nB (bF c17)) (sr_ fun _ hK19 => ?_)
   refine ad_ hK19 ?_
   obtain rfl := os H
   exact rt1 Try.f75 rfl rfl hR_ ⟨rfl, HS.b⟩
 refine wn_ (nB c17) (WC.skip (via_ hK12 (sr_ fun _ hK18 => ?_)))
 refine ad_ hK18 ?_
 obtain rfl := os H
 exact rt1 Try.f75 rfl rfl hR_ ⟨rfl, HS.b⟩
def laws_eqCellS.b0 (l0 : List S62) (l1 : List S62) (rec_ : Int → Option (Bool ⊕ Int)) (k18 : Nat) (i11 : Int) : Option (Bool ⊕ Int) := (if i11 < (l0.length : Int) then (if 0 ≤ i11 ∧ i11 < (l0.length : Int) then (if 0 ≤ i11 ∧ i11 < (l1.length : Int) then ((laws_eqCell.g k18 (l0.getD i11.toNat o62) (l1.getD i11.toNat o62)).bind fun t51 => (if t51 = true then (rec_ (wrap64 (i11 + 1))) else (some (Sum.inl false)))) else none) else none) else (some (Sum.inr i11)))
def laws_eqCellS.l0 (l0 : List S62) (l1 : List S62) : Nat → Int → Option (Bool ⊕ Int)
 | 0, _ => none
 | k + 1, i11 => laws_eqCellS.b0 l0 l1 (laws_eqCellS.l0 l0 l1 k) k i11
def laws_eqCellS.g (k : Nat) (l0 : List S62) (l1 : List S62) : Option Bool := (if (l0.length : Int) = (l1.length : Int) then ((laws_eqCellS.l0 l0 l1 k 0).bind (fun oc16 => match oc16 with | .inl r_ => some r_ | .inr i11 => (some true))) else (some false))
theorem laws_eqCellS.runs (k : Nat) (A0 : Option Addr) (c0 : Nat) (l0 : List S62) (A1 : Option Addr) (c1 : Nat) (l1 : List S62) (r : Bool) (w : World) (hr0 : k62.C w A0 l0.length l0) (hc0 : l0.length ≤ c0) (hr1 : k62.C w A1 l1.length l1) (hc1 : l1.length ≤ c1) (H : laws_eqCellS.g k l0 l1 = some r) :
   Calls prog 62 #[.slice A0 l0.length c0, .slice A1 l1.length c1] w fun e w' => e = .returned (.bool r) ∧ Below w.heap.size w w' := by
 unfold laws_eqCellS.g at H
 have HS : St (fun _ => True) w w [] [(cF k62 A0 l0), (cF k62 A1 l1)] [] := St.start (foot_cons (foot_C h62 hr0) (foot_cons (foot_C h62 hr1) foot_nil))
 refine cw_ (n := 27) func62 fun R_ hR_ => ?_
 refine sr_ fun _ hK1 => ?_
 refine ad_ hK1 ?_
 refine WC.seq fun _ hK2 => ?_
 refine sr_ fun _ hK3 => ?_
 refine mv_ ?_
 refine ln_ underlying71 ?_
 refine mv_ ?_
 refine ln_ underlying71 ?_
 refine b_ bin_neq ?_
 refine dn_ hK3 ?_
 rcases eti_ H with ⟨c4, H⟩ | ⟨c4, H⟩
 · refine wy_ (qT c4) (sr_ fun _ hK56 => ?_)
   refine ad_ hK56 ?_
   obtain rfl := os H
   exact rt1 Try.f62 rfl rfl hR_ ⟨rfl, HS.b⟩
 refine wn_ (qF c4) (WC.skip (via_ hK2 (WC.seq fun K5 hK5 => ?_)))
 refine sr_ fun _ hK6 => ?_
 refine ad_ hK6 ?_
 refine WC.block ?_
 obtain ⟨G7, hG8, oc9, H, Ho10⟩ := open_G H
 let J12 := fun (i11 : Int) (E_ : Env) (W_ : World) => E_ = [(0, .slice A0 l0.length c0), (1, .slice A1 l1.length c1), (5, vi i11)] ∧ St (fun _ => True) w W_ [] [(cF k62 A0 l0), (cF k62 A1 l1)] []
 have X13 : ∀ E_ W_, (∃ i11, G7 (Sum.inr i11) = some r ∧ J12 i11 E_ W_) → ∀ a, Fits a 27 E_ → K5 a W_ := by
   rintro E_ w14 ⟨i11, H, rfl, HS⟩
   rw [hG8] at H
   (try dsimp only at H)
   refine hK5 _ _ ?_
   refine sr_ fun _ hK15 => ?_
   refine ad_ hK15 ?_
   obtain rfl := os H
   exact rt1 Try.f62 rfl rfl hR_ ⟨rfl, HS.b⟩
 clear hK5
 refine WC.loop (fun k_ E_ W_ => ∃ i11, (∃ o_, laws_eqCellS.l0 l0 l1 k_ i11 = some o_ ∧ G7 o_ = some r) ∧ J12 i11 E_ W_) k ⟨0, ⟨_, H, Ho10⟩, rfl, HS⟩ (sb rfl) ?_
 rintro k_ E_ w17 ⟨i11, ⟨oc9, H, Ho10⟩, rfl, HS⟩
 rcases k_ with _ | k18
 · exact no_ H
 replace H : laws_eqCellS.b0 l0 l1 (laws_eqCellS.l0 l0 l1 k18) k18 i11 = some oc9 := H
 unfold laws_eqCellS.b0 at H
 refine WC.seq fun _ hK19 => ?_
 refine sr_ fun _ hK20 => ?_
 refine mv_ ?_
 refine mv_ ?_
 refine ln_ underlying71 ?_
 refine b_ bin_lss ?_
 refine dn_ hK20 ?_
 rcases eti_ H with ⟨c21, H⟩ | ⟨c21, H⟩
 · refine wn_ (dF c21) (WC.exit ?_)
   obtain rfl := os H
   exact wv_ iq X13 ⟨i11, Ho10, rfl, HS⟩
 refine wy_ (dT c21) (WC.skip (via_ hK19 (WC.seq fun _ hK22 => ?_)))
 refine WC.block (WC.seq fun _ hK23 => ?_)
 refine WC.drawS HS [] rfl rfl (fun w24 HS => ?_)
 have HB := Below.refl w24.heap.size w24
 have HSW := HS
 refine dm_ 0 ?_
 refine dm_ 1 ?_
 obtain ⟨⟨q25, q26⟩, H⟩ := if_some H
 obtain ⟨ad27, rfl⟩ := C_open (HS.getO 0 rfl) (by omega)
 refine di_ 2 underlying71 2 q25 q26 ?_
 refine dm_ 4 ?_
 refine dm_ 5 ?_
 obtain ⟨⟨q28, q29⟩, H⟩ := if_some H
 obtain ⟨ad30, rfl⟩ := C_open (HS.getO 1 rfl) (by omega)
 refine di_ 6 underlying71 2 q28 q29 ?_
 obtain ⟨e31, el32, HS⟩ := HS.elO 0 rfl (by decide) o62 i11 q25 q26
 replace HSW := HS
 obtain ⟨A33, c34, hc35, le36, HS⟩ := HS.eO 0 rfl at62_0
 obtain ⟨A37, c38, hc39, le40, HS⟩ := HS.eO 1 rfl at62_1
 refine dt_ 3 (Below.refl _ _) (fun w_ hw_ => Run.loadS (cs := [.slice A33 ((l0.getD i11.toNat o62).f0.length) c34, .slice A37 ((l0.getD i11.toNat o62).f1.length) c38]) rfl rfl underlying62 rfl (by kernel_rfl) (cells_part ((HS.below hw_).getO 2 rfl).2 (part_cons hc35 (part_cons hc39 part_nil)))) ?_
 obtain ⟨e41, el42, HS⟩ := HS.elO 4 rfl (by decide) o62 i11 q28 q29
 replace HSW := HS
 obtain ⟨A43, c44, hc45, le46, HS⟩ := HS.eO 0 rfl at62_0
 obtain ⟨A47, c48, hc49, le50, HS⟩ := HS.eO 1 rfl at62_1
 refine dt_ 7 (Below.refl _ _) (fun w_ hw_ => Run.loadS (cs := [.slice A43 ((l1.getD i11.toNat o62).f0.length) c44, .slice A47 ((l1.getD i11.toNat o62).f1.length) c48]) rfl rfl underlying62 rfl (by kernel_rfl) (cells_part ((HS.below hw_).getO 2 rfl).2 (part_cons hc45 (part_cons hc49 part_nil)))) ?_
 obtain ⟨t51, ha52, H⟩ := bind_some H
 refine dcs_ HS HB 8 (w_none rfl) func75 (laws_eqCell.runs k18 (l0.getD i11.toNat o62) A33 c34 A37 c38 (l1.getD i11.toNat o62) A43 c44 A47 c48 t51 _ (HS.getO 4 rfl) le36 (HS.getO 3 rfl) le40 (HS.getO 1 rfl) le46 (HS.getO 0 rfl) le50 ha52) (fun w53 HS HB => ?_)
 clear ha52
 refine dp_ 9 (fun _ => Run.not rfl rfl) ?_
 refine dd_ ?_
 clear HB HSW
 refine via_ hK23 ?_
 rcases ite_ H with ⟨c54, H⟩ | ⟨c54, H⟩
 · refine wn_ (nB c54) (WC.skip (via_ hK22 (rg_ (mv_ ?_))))
   refine b_ bin_add64 ?_
   refine as_ ?_
   refine WL.done ?_
   exact wr_ k18 iq ⟨(wrap64 (i11 + 1)), ⟨_, H, Ho10⟩, rfl, (St.pk HS [6, 7] [] rfl rfl)⟩
 refine wy_ (nB (bF c54)) (sr_ fun _ hK55 => ?_)
 refine ad_ hK55 ?_
 refine WC.ret ?_
 obtain rfl := os H
 rw [hG8] at Ho10
 replace H : some _ = some _ := Ho10
 obtain rfl := os H
 exact fin1 Try.f62 rfl rfl hR_ ⟨rfl, HS.b⟩
def laws_eqCellSS.b0 (l0 : List (List S62)) (l1 : List (List S62)) (rec_ : Int → Option (Bool ⊕ Int)) (k18 : Nat) (i11 : Int) : Option (Bool ⊕ Int) := (if i11 < (l0.length : Int) then (if 0 ≤ i11 ∧ i11 < (l0.length : Int) then (if 0 ≤ i11 ∧ i11 < (l1.length : Int) then ((laws_eqCellS.g k18 (l0.getD i11.toNat []) (l1.getD i11.toNat [])).bind fun t37 => (if t37 = true then (rec_ (wrap64 (i11 + 1))) else (some (Sum.inl false)))) else none) else none) else (some (Sum.inr i11)))
def laws_eqCellSS.l0 (l0 : List (List S62)) (l1 : List (List S62)) : Nat → Int → Option (Bool ⊕ Int)
 | 0, _ => none
 | k + 1, i11 => laws_eqCellSS.b0 l0 l1 (laws_eqCellSS.l0 l0 l1 k) k i11
def laws_eqCellSS.g (k : Nat) (l0 : List (List S62)) (l1 : List (List S62)) : Option Bool := (if (l0.length : Int) = (l1.length : Int) then ((laws_eqCellSS.l0 l0 l1 k 0).bind (fun oc16 => match oc16 with | .inl r_ => some r_ | .inr i11 => (some true))) else (some false))
theorem laws_eqCellSS.runs (k : Nat) (A0 : Option Addr) (c0 : Nat) (l0 : List (List S62)) (A1 : Option Addr) (c1 : Nat) (l1 : List (List S62)) (r : Bool) (w : World) (hr0 : kS62.C w A0 l0.length l0) (hc0 : l0.length ≤ c0) (hr1 : kS62.C w A1 l1.length l1) (hc1 : l1.length ≤ c1) (H : laws_eqCellSS.g k l0 l1 = some r) :
   Calls prog 127 #[.slice A0 l0.length c0, .slice A1 l1.length c1] w fun e w' => e = .returned (.bool r) ∧ Below w.heap.size w w' := by
 unfold laws_eqCellSS.g at H
 have HS : St (fun _ => True) w w [] [(cF kS62 A0 l0), (cF kS62 A1 l1)] [] := St.start (foot_cons (foot_C (Kd.heap_slice _ h62) hr0) (foot_cons (foot_C (Kd.heap_slice _ h62) hr1) foot_nil))
 refine cw_ (n := 27) func127 fun R_ hR_ => ?_
 refine sr_ fun _ hK1 => ?_
 refine ad_ hK1 ?_
 refine WC.seq fun _ hK2 => ?_
 refine sr_ fun _ hK3 => ?_
 refine mv_ ?_
 refine ln_ underlying56 ?_
 refine mv_ ?_
 refine ln_ underlying56 ?_
 refine b_ bin_neq ?_
 refine dn_ hK3 ?_
 rcases eti_ H with ⟨c4, H⟩ | ⟨c4, H⟩
 · refine wy_ (qT c4) (sr_ fun _ hK42 => ?_)
   refine ad_ hK42 ?_
   obtain rfl := os H
   exact rt1 Try.f127 rfl rfl hR_ ⟨rfl, HS.b⟩
 refine wn_ (qF c4) (WC.skip (via_ hK2 (WC.seq fun K5 hK5 => ?_)))
 refine sr_ fun _ hK6 => ?_
 refine ad_ hK6 ?_
 refine WC.block ?_
 obtain ⟨G7, hG8, oc9, H, Ho10⟩ := open_G H
 let J12 := fun (i11 : Int) (E_ : Env) (W_ : World) => E_ = [(0, .slice A0 l0.length c0), (1, .slice A1 l1.length c1), (5, vi i11)] ∧ St (fun _ => True) w W_ [] [(cF kS62 A0 l0), (cF kS62 A1 l1)] []
 have X13 : ∀ E_ W_, (∃ i11, G7 (Sum.inr i11) = some r ∧ J12 i11 E_ W_) → ∀ a, Fits a 27 E_ → K5 a W_ := by
   rintro E_ w14 ⟨i11, H, rfl, HS⟩
   rw [hG8] at H
   (try dsimp only at H)
   refine hK5 _ _ ?_
   refine sr_ fun _ hK15 => ?_
   refine ad_ hK15 ?_
   obtain rfl := os H
   exact rt1 Try.f127 rfl rfl hR_ ⟨rfl, HS.b⟩
 clear hK5
 refine WC.loop (fun k_ E_ W_ => ∃ i11, (∃ o_, laws_eqCellSS.l0 l0 l1 k_ i11 = some o_ ∧ G7 o_ = some r) ∧ J12 i11 E_ W_) k ⟨0, ⟨_, H, Ho10⟩, rfl, HS⟩ (sb rfl) ?_
 rintro k_ E_ w17 ⟨i11, ⟨oc9, H, Ho10⟩, rfl, HS⟩
 rcases k_ with _ | k18
 · exact no_ H
 replace H : laws_eqCellSS.b0 l0 l1 (laws_eqCellSS.l0 l0 l1 k18) k18 i11 = some oc9 := H
 unfold laws_eqCellSS.b0 at H
 refine WC.seq fun _ hK19 => ?_
 refine sr_ fun _ hK20 => ?_
 refine mv_ ?_
 refine mv_ ?_
 refine ln_ underlying56 ?_
 refine b_ bin_lss ?_
 refine dn_ hK20 ?_
 rcases eti_ H with ⟨c21, H⟩ | ⟨c21, H⟩
 · refine wn_ (dF c21) (WC.exit ?_)
   obtain rfl := os H
   exact wv_ iq X13 ⟨i11, Ho10, rfl, HS⟩
 refine wy_ (dT c21) (WC.skip (via_ hK19 (WC.seq fun _ hK22 => ?_)))
 refine WC.block (WC.seq fun _ hK23 => ?_)
 refine WC.drawS HS [] rfl rfl (fun w24 HS => ?_)
 have HB := Below.refl w24.heap.size w24
 have HSW := HS
 refine dm_ 0 ?_
 refine dm_ 1 ?_
 obtain ⟨⟨q25, q26⟩, H⟩ := if_some H
 obtain ⟨ad27, rfl⟩ := C_open (HS.getO 0 rfl) (by omega)
 refine di_ 2 underlying56 1 q25 q26 ?_
 refine dm_ 4 ?_
 refine dm_ 5 ?_
 obtain ⟨⟨q28, q29⟩, H⟩ := if_some H
 obtain ⟨ad30, rfl⟩ := C_open (HS.getO 1 rfl) (by omega)
 refine di_ 6 underlying56 1 q28 q29 ?_
 obtain ⟨A31, c32, le33, HS⟩ := HS.slO 0 rfl i11 q25 q26
 replace HSW := HS
 refine dt_ 3 (Below.refl _ _) (fun w_ hw_ => Run.load rfl rfl underlying71 rfl ((HS.below hw_).getO 1 rfl)) ?_
 obtain ⟨A34, c35, le36, HS⟩ := HS.slO 3 rfl i11 q28 q29
 replace HSW := HS
 refine dt_ 7 (Below.refl _ _) (fun w_ hw_ => Run.load rfl rfl underlying71 rfl ((HS.below hw_).getO 1 rfl)) ?_
 obtain ⟨t37, ha38, H⟩ := bind_some H
 refine dcs_ HS HB 8 (w_none rfl) func62 (laws_eqCellS.runs k18 A31 c32 (l0.getD i11.toNat []) A34 c35 (l1.getD i11.toNat []) t37 _ (HS.getO 2 rfl) le33 (HS.getO 0 rfl) le36 ha38) (fun w39 HS HB => ?_)
 clear ha38
 refine dp_ 9 (fun _ => Run.not rfl rfl) ?_
 refine dd_ ?_
 clear HB HSW
 refine via_ hK23 ?_
 rcases ite_ H with ⟨c40, H⟩ | ⟨c40, H⟩
 · refine wn_ (nB c40) (WC.skip (via_ hK22 (rg_ (mv_ ?_))))
   refine b_ bin_add64 ?_
   refine as_ ?_
   refine WL.done ?_
   exact wr_ k18 iq ⟨(wrap64 (i11 + 1)), ⟨_, H, Ho10⟩, rfl, (St.pk HS [4, 5] [] rfl rfl)⟩
 refine wy_ (nB (bF c40)) (sr_ fun _ hK41 => ?_)
 refine ad_ hK41 ?_
 refine WC.ret ?_
 obtain rfl := os H
 rw [hG8] at Ho10
 replace H : some _ = some _ := Ho10
 obtain rfl := os H
 exact fin1 Try.f127 rfl rfl hR_ ⟨rfl, HS.b⟩
def laws_eqStore.g (k : Nat) (x0 : S58) (x1 : S58) : Option Bool := ((laws_eqIntS.g k x0.f0 x1.f0).bind fun t8 => (if t8 = true then ((laws_eqCellSS.g k x0.f1 x1.f1).bind fun t14 => (if t14 = true then (some true) else (some false))) else (some false)))
theorem laws_eqStore.runs (k : Nat) (x0 : S58) (A0_0 : Option Addr) (c0_0 : Nat) (A0_1 : Option Addr) (c0_1 : Nat) (x1 : S58) (A1_0 : Option Addr) (c1_0 : Nat) (A1_1 : Option Addr) (c1_1 : Nat) (r : Bool) (w : World) (hr0_0 : kI.C w A0_0 x0.f0.length x0.f0) (hc0_0 : x0.f0.length ≤ c0_0) (hr0_1 : kS62.C w A0_1 x0.f1.length x0.f1) (hc0_1 : x0.f1.length ≤ c0_1) (hr1_0 : kI.C w A1_0 x1.f0.length x1.f0) (hc1_0 : x1.f0.length ≤ c1_0) (hr1_1 : kS62.C w A1_1 x1.f1.length x1.f1) (hc1_1 : x1.f1.length ≤ c1_1) (H : laws_eqStore.g k x0 x1 = some r) :
   Calls prog 63 #[.agg #[.slice A0_0 x0.f0.length c0_0, .slice A0_1 x0.f1.length c0_1], .agg #[.slice A1_0 x1.f0.length c1_0, .slice A1_1 x1.f1.length c1_1]] w fun e w' => e = .returned (.bool r) ∧ Below w.heap.size w w' := by
 unfold laws_eqStore.g at H
 have HS : St (fun _ => True) w w [] [(cF kI A0_0 x0.f0), (cF kS62 A0_1 x0.f1), (cF kI A1_0 x1.f0), (cF kS62 A1_1 x1.f1)] [] := St.start (foot_cons (foot_C (Kd.heap_int _) hr0_0) (foot_cons (foot_C (Kd.heap_slice _ h62) hr0_1) (foot_cons (foot_C (Kd.heap_int _) hr1_0) (foot_cons (foot_C (Kd.heap_slice _ h62) hr1_1) foot_nil))))
 refine cw_ (n := 17) func63 fun R_ hR_ => ?_
 refine sr_ fun _ hK1 => ?_
 refine bo_ HS (fun b2 w3 hb2 HS => ?_)
 refine bo_ HS (fun b4 w5 hb4 HS => ?_)
 refine ad_ hK1 ?_
 refine WC.seq fun _ hK6 => ?_
 refine sr_ fun _ hK7 => ?_
 refine v_ (fa_ underlying58) ?_
 refine v_ (lb_ (HS.mu 1 rfl) underlying22 rfl) ?_
 refine v_ (fa_ underlying58) ?_
 refine v_ (lb_ (HS.mu 0 rfl) underlying22 rfl) ?_
 obtain ⟨t8, ha9, H⟩ := bind_some H
 refine cs_ HS func19 (laws_eqIntS.runs k A0_0 c0_0 x0.f0 A1_0 c1_0 x1.f0 t8 _ (HS.getO 0 rfl) hc0_0 (HS.getO 2 rfl) hc1_0 ha9) (fun w10 HS => ?_)
 clear ha9
 refine nt_ ?_
 refine dn_ hK7 ?_
 rcases eti_ H with ⟨c11, H⟩ | ⟨c11, H⟩
 · refine wy_ (nB (bF c11)) (sr_ fun _ hK20 => ?_)
   refine ad_ hK20 ?_
   obtain rfl := os H
   exact rt1 Try.f63 rfl rfl hR_ ⟨rfl, HS.b⟩
 refine wn_ (nB c11) (WC.skip (via_ hK6 (WC.seq fun _ hK12 => ?_)))
 refine sr_ fun _ hK13 => ?_
 refine v_ (fa_ underlying58) ?_
 refine v_ (lb_ (HS.mu 1 rfl) underlying56 rfl) ?_
 refine v_ (fa_ underlying58) ?_
 refine v_ (lb_ (HS.mu 0 rfl) underlying56 rfl) ?_
 obtain ⟨t14, ha15, H⟩ := bind_some H
 refine cs_ HS func127 (laws_eqCellSS.runs k A0_1 c0_1 x0.f1 A1_1 c1_1 x1.f1 t14 _ (HS.getO 1 rfl) hc0_1 (HS.getO 3 rfl) hc1_1 ha15) (fun w16 HS => ?_)
 clear ha15
 refine nt_ ?_
 refine dn_ hK13 ?_
 rcases eti_ H with ⟨c17, H⟩ | ⟨c17, H⟩
 · refine wy_ (nB (bF c17)) (sr_ fun _ hK19 => ?_)
   refine ad_ hK19 ?_
   obtain rfl := os H
   exact rt1 Try.f63 rfl rfl hR_ ⟨rfl, HS.b⟩
 refine wn_ (nB c17) (WC.skip (via_ hK12 (sr_ fun _ hK18 => ?_)))
 refine ad_ hK18 ?_
 obtain rfl := os H
 exact rt1 Try.f63 rfl rfl hR_ ⟨rfl, HS.b⟩
def laws_eqTable.g (k : Nat) (x0 : S67) (x1 : S67) : Option Bool := ((laws_eqIntS.g k x0.f0 x1.f0).bind fun t8 => (if t8 = true then (if x0.f1 = x1.f1 then (some true) else (some false)) else (some false)))
theorem laws_eqTable.runs (k : Nat) (x0 : S67) (A0_0 : Option Addr) (c0_0 : Nat) (x1 : S67) (A1_0 : Option Addr) (c1_0 : Nat) (r : Bool) (w : World) (hr0_0 : kI.C w A0_0 x0.f0.length x0.f0) (hc0_0 : x0.f0.length ≤ c0_0) (hr1_0 : kI.C w A1_0 x1.f0.length x1.f0) (hc1_0 : x1.f0.length ≤ c1_0) (H : laws_eqTable.g k x0 x1 = some r) :
   Calls prog 64 #[.agg #[.slice A0_0 x0.f0.length c0_0, vi x0.f1], .agg #[.slice A1_0 x1.f0.length c1_0, vi x1.f1]] w fun e w' => e = .returned (.bool r) ∧ Below w.heap.size w w' := by
 unfold laws_eqTable.g at H
 have HS : St (fun _ => True) w w [] [(cF kI A0_0 x0.f0), (cF kI A1_0 x1.f0)] [] := St.start (foot_cons (foot_C (Kd.heap_int _) hr0_0) (foot_cons (foot_C (Kd.heap_int _) hr1_0) foot_nil))
 refine cw_ (n := 16) func64 fun R_ hR_ => ?_
 refine sr_ fun _ hK1 => ?_
 refine bo_ HS (fun b2 w3 hb2 HS => ?_)
 refine bo_ HS (fun b4 w5 hb4 HS => ?_)
 refine ad_ hK1 ?_
 refine WC.seq fun _ hK6 => ?_
 refine sr_ fun _ hK7 => ?_
 refine v_ (fa_ underlying67) ?_
 refine v_ (lb_ (HS.mu 1 rfl) underlying22 rfl) ?_
 refine v_ (fa_ underlying67) ?_
 refine v_ (lb_ (HS.mu 0 rfl) underlying22 rfl) ?_
 obtain ⟨t8, ha9, H⟩ := bind_some H
 refine cs_ HS func19 (laws_eqIntS.runs k A0_0 c0_0 x0.f0 A1_0 c1_0 x1.f0 t8 _ (HS.getO 0 rfl) hc0_0 (HS.getO 1 rfl) hc1_0 ha9) (fun w10 HS => ?_)
 clear ha9
 refine nt_ ?_
 refine dn_ hK7 ?_
 rcases eti_ H with ⟨c11, H⟩ | ⟨c11, H⟩
 · refine wy_ (nB (bF c11)) (sr_ fun _ hK17 => ?_)
   refine ad_ hK17 ?_
   obtain rfl := os H
   exact rt1 Try.f64 rfl rfl hR_ ⟨rfl, HS.b⟩
 refine wn_ (nB c11) (WC.skip (via_ hK6 (WC.seq fun _ hK12 => ?_)))
 refine sr_ fun _ hK13 => ?_
 refine v_ (fa_ underlying67) ?_
 refine v_ (lb_ (HS.mu 1 rfl) underlying3 rfl) ?_
 refine v_ (fa_ underlying67) ?_
 refine v_ (lb_ (HS.mu 0 rfl) underlying3 rfl) ?_
 refine b_ bin_neq ?_
 refine dn_ hK13 ?_
 rcases eti_ H with ⟨c14, H⟩ | ⟨c14, H⟩
 · refine wy_ (qT c14) (sr_ fun _ hK16 => ?_)
   refine ad_ hK16 ?_
   obtain rfl := os H
   exact rt1 Try.f64 rfl rfl hR_ ⟨rfl, HS.b⟩
 refine wn_ (qF c14) (WC.skip (via_ hK12 (sr_ fun _ hK15 => ?_)))
 refine ad_ hK15 ?_
 obtain rfl := os H
 exact rt1 Try.f64 rfl rfl hR_ ⟨rfl, HS.b⟩
theorem laws_markIntS.leaf (A : Option Addr) (n c : Nat) (z : Int) (L : List Addr) (w : World) (h : XLeaf.RowLv w .int A n L) (h0 : 0 ≤ z) (h1 : z + (L.length : Int) ≤ 4611686018427387904) (r : Int) (hr0 : r = z + (L.length : Int)) :
   Calls prog 20 #[.slice A n c, vi z] w fun e w' => e = .returned (vi r) ∧ XLeaf.Marked L z w w' := by
 obtain ⟨f, rfl, HJ⟩ := MkJ.start h h0 h1
 clear h h0
 refine cw_ (n := 19) func20 fun R_ hR_ => ?_
 refine WC.seq fun _ hKa => ?_
 refine rg_ ?_
 refine as_ ?_
 refine WL.done ?_
 refine via_ hKa ?_
 refine WC.seq fun _ hKb => ?_
 refine WC.seq fun _ hKc => ?_
 refine rg_ ?_
 refine as_ ?_
 refine WL.done ?_
 refine via_ hKc ?_
 refine WC.block ?_
 refine WC.loop (fun k_ E_ W_ => ∃ (j : Nat) (y : Int), k_ + j = n ∧ E_ = [(0, .slice A n c), (1, vi y), (5, vi (j : Int))] ∧ MkJ w W_ z .int A n f j y) n ⟨0, z, rfl, rfl, HJ⟩ (sb rfl) ?_
 rintro k_ E_ W ⟨j, y, hk, rfl, HJ⟩
 refine WC.seq fun _ hKd => ?_
 refine WC.seq fun _ hKe => ?_
 refine rg_ ?_
 refine mv_ ?_
 refine mv_ ?_
 refine ln_ underlying22 ?_
 refine b_ bin_lss ?_
 refine WL.done ?_
 refine via_ hKe ?_
 by_cases hlt : (j : Int) < (n : Int)
 · refine wy_ (dT hlt) (WC.skip (via_ hKd ?_))
   obtain ⟨k1, rfl⟩ : ∃ k1, k_ = k1 + 1 := ⟨k_ - 1, by omega⟩
   obtain ⟨g, Ls, rfl, hj1, he, HI⟩ := HJ.round (by omega)
   refine WC.seq fun _ hK1 => ?_
   refine WC.block ?_
   refine WC.seq fun _ hK2 => ?_
   refine rg_ ?_
   refine mv_ ?_
   refine mv_ ?_
   refine mv_ ?_
   refine v_ (Run.eqv (ptr_at g j 1) (ia_ underlying22 1 (Int.natCast_nonneg _) hlt)) ?_
   refine WL.mset 0 HI rfl rfl (fun W5 y3 hw4 HI => ?_)
   refine WL.done ?_
   refine via_ hK2 ?_
   refine rg_ ?_
   refine mv_ ?_
   refine b_ bin_add64 ?_
   rw [hw4]
   clear hw4
   refine as_ ?_
   refine WL.done ?_
   refine via_ hK1 ?_
   refine rg_ ?_
   refine mv_ ?_
   refine b_ bin_add64 ?_
   rw [hj1]
   refine as_ ?_
   refine WL.done ?_
   exact wr_ k1 iq ⟨j + 1, _, by omega, rfl, HJ.next he HI rfl⟩
 · refine wn_ (dF hlt) (WC.exit (via_ hKb ?_))
   obtain rfl : j = n := by omega
   obtain rfl : y = r := HJ.y.trans hr0.symm
   refine WC.seq fun _ hKf => ?_
   refine rg_ ?_
   refine mv_ ?_
   refine as_ ?_
   refine WL.done ?_
   refine via_ hKf ?_
   refine WC.ret ?_
   exact fin1 Try.f20 rfl rfl hR_ ⟨rfl, HJ.m⟩
theorem laws_markPartS.leaf (A : Option Addr) (n c : Nat) (z : Int) (L : List Addr) (w : World) (h : XLeaf.RowLv w (.both .int (.row .int)) A n L) (h0 : 0 ≤ z) (h1 : z + (L.length : Int) ≤ 4611686018427387904) (r : Int) (hr0 : r = z + (L.length : Int)) :
   Calls prog 153 #[.slice A n c, vi z] w fun e w' => e = .returned (vi r) ∧ XLeaf.Marked L z w w' := by
 obtain ⟨f, rfl, HJ⟩ := MkJ.start h h0 h1
 clear h h0
 refine cw_ (n := 27) func153 fun R_ hR_ => ?_
 refine WC.seq fun _ hKa => ?_
 refine rg_ ?_
 refine as_ ?_
 refine WL.done ?_
 refine via_ hKa ?_
 refine WC.seq fun _ hKb => ?_
 refine WC.seq fun _ hKc => ?_
 refine rg_ ?_
 refine as_ ?_
 refine WL.done ?_
 refine via_ hKc ?_
 refine WC.block ?_
 refine WC.loop (fun k_ E_ W_ => ∃ (j : Nat) (y : Int), k_ + j = n ∧ E_ = [(0, .slice A n c), (1, vi y), (5, vi (j : Int))] ∧ MkJ w W_ z (.both .int (.row .int)) A n f j y) n ⟨0, z, rfl, rfl, HJ⟩ (sb rfl) ?_
 rintro k_ E_ W ⟨j, y, hk, rfl, HJ⟩
 refine WC.seq fun _ hKd => ?_
 refine WC.seq fun _ hKe => ?_
 refine rg_ ?_
 refine mv_ ?_
 refine mv_ ?_
 refine ln_ underlying133 ?_
 refine b_ bin_lss ?_
 refine WL.done ?_
 refine via_ hKe ?_
 by_cases hlt : (j : Int) < (n : Int)
 · refine wy_ (dT hlt) (WC.skip (via_ hKd ?_))
   obtain ⟨k1, rfl⟩ : ∃ k1, k_ = k1 + 1 := ⟨k_ - 1, by omega⟩
   obtain ⟨g, Ls, rfl, hj1, he, HI⟩ := HJ.round (by omega)
   refine WC.seq fun _ hK1 => ?_
   refine WC.block ?_
   refine WC.seq fun _ hK2 => ?_
   refine rg_ ?_
   refine mv_ ?_
   refine mv_ ?_
   refine mv_ ?_
   refine v_ (Run.eqv (ptr_at g j 2) (ia_ underlying133 2 (Int.natCast_nonneg _) hlt)) ?_
   refine v_ (Run.fieldAddr rfl rfl underlying149 rfl (by kernel_rfl) (Addr.add_mid _ _ _)) ?_
   refine WL.mset 0 HI rfl rfl (fun W5 y3 hw4 HI => ?_)
   refine WL.done ?_
   refine via_ hK2 ?_
   refine WC.seq fun _ hK6 => ?_
   refine rg_ ?_
   refine mv_ ?_
   refine b_ bin_add64 ?_
   rw [hw4]
   clear hw4
   refine as_ ?_
   refine WL.done ?_
   refine via_ hK6 ?_
   refine rg_ ?_
   refine mv_ ?_
   refine mv_ ?_
   refine v_ (Run.eqv (ptr_at g j 2) (ia_ underlying133 2 (Int.natCast_nonneg _) hlt)) ?_
   refine v_ (Run.fieldAddr rfl rfl underlying149 rfl (by kernel_rfl) (Addr.add_mid _ _ _)) ?_
   have h0_ := HI.y0
   obtain ⟨L7, A8, n9, c10, y11, hc12, hR13, hB14, hy15, hI16⟩ := HI.row (i := 1) rfl
   refine v_ (Run.load rfl rfl underlying22 rfl hc12) ?_
   refine mv_ ?_
   refine c_ func20 (laws_markIntS.leaf A8 n9 c10 y3 L7 _ hR13 h0_ hB14 y11 hy15) ?_
   rintro _ W18 ⟨rfl, hm_⟩
   replace HI := hI16 W18 hm_
   clear h0_ hm_ hI16 hR13 hB14 hy15
   refine ⟨_, rfl, ?_⟩
   refine as_ ?_
   refine WL.done ?_
   refine via_ hK1 ?_
   refine rg_ ?_
   refine mv_ ?_
   refine b_ bin_add64 ?_
   rw [hj1]
   refine as_ ?_
   refine WL.done ?_
   exact wr_ k1 iq ⟨j + 1, _, by omega, rfl, HJ.next he HI rfl⟩
 · refine wn_ (dF hlt) (WC.exit (via_ hKb ?_))
   obtain rfl : j = n := by omega
   obtain rfl : y = r := HJ.y.trans hr0.symm
   refine WC.seq fun _ hKf => ?_
   refine rg_ ?_
   refine mv_ ?_
   refine as_ ?_
   refine WL.done ?_
   refine via_ hKf ?_
   refine WC.ret ?_
   exact fin1 Try.f153 rfl rfl hR_ ⟨rfl, HJ.m⟩
theorem laws_markPartSS.leaf (A : Option Addr) (n c : Nat) (z : Int) (L : List Addr) (w : World) (h : XLeaf.RowLv w (.row (.both .int (.row .int))) A n L) (h0 : 0 ≤ z) (h1 : z + (L.length : Int) ≤ 4611686018427387904) (r : Int) (hr0 : r = z + (L.length : Int)) :
   Calls prog 129 #[.slice A n c, vi z] w fun e w' => e = .returned (vi r) ∧ XLeaf.Marked L z w w' := by
 obtain ⟨f, rfl, HJ⟩ := MkJ.start h h0 h1
 clear h h0
 refine cw_ (n := 19) func129 fun R_ hR_ => ?_
 refine WC.seq fun _ hKa => ?_
 refine rg_ ?_
 refine as_ ?_
 refine WL.done ?_
 refine via_ hKa ?_
 refine WC.seq fun _ hKb => ?_
 refine WC.seq fun _ hKc => ?_
 refine rg_ ?_
 refine as_ ?_
 refine WL.done ?_
 refine via_ hKc ?_
 refine WC.block ?_
 refine WC.loop (fun k_ E_ W_ => ∃ (j : Nat) (y : Int), k_ + j = n ∧ E_ = [(0, .slice A n c), (1, vi y), (5, vi (j : Int))] ∧ MkJ w W_ z (.row (.both .int (.row .int))) A n f j y) n ⟨0, z, rfl, rfl, HJ⟩ (sb rfl) ?_
 rintro k_ E_ W ⟨j, y, hk, rfl, HJ⟩
 refine WC.seq fun _ hKd => ?_
 refine WC.seq fun _ hKe => ?_
 refine rg_ ?_
 refine mv_ ?_
 refine mv_ ?_
 refine ln_ underlying60 ?_
 refine b_ bin_lss ?_
 refine WL.done ?_
 refine via_ hKe ?_
 by_cases hlt : (j : Int) < (n : Int)
 · refine wy_ (dT hlt) (WC.skip (via_ hKd ?_))
   obtain ⟨k1, rfl⟩ : ∃ k1, k_ = k1 + 1 := ⟨k_ - 1, by omega⟩
   obtain ⟨g, Ls, rfl, hj1, he, HI⟩ := HJ.round (by omega)
   refine WC.seq fun _ hK1 => ?_
   refine WC.block ?_
   refine rg_ ?_
   refine mv_ ?_
   refine mv_ ?_
   refine v_ (Run.eqv (ptr_at g j 1) (ia_ underlying60 1 (Int.natCast_nonneg _) hlt)) ?_
   have h0_ := HI.y0
   obtain ⟨L2, A3, n4, c5, y6, hc7, hR8, hB9, hy10, hI11⟩ := HI.row (i := 0) rfl
   refine v_ (Run.load rfl rfl underlying133 rfl hc7) ?_
   refine mv_ ?_
   refine c_ func153 (laws_markPartS.leaf A3 n4 c5 y L2 _ hR8 h0_ hB9 y6 hy10) ?_
   rintro _ W13 ⟨rfl, hm_⟩
   replace HI := hI11 W13 hm_
   clear h0_ hm_ hI11 hR8 hB9 hy10
   refine ⟨_, rfl, ?_⟩
   refine as_ ?_
   refine WL.done ?_
   refine via_ hK1 ?_
   refine rg_ ?_
   refine mv_ ?_
   refine b_ bin_add64 ?_
   rw [hj1]
   refine as_ ?_
   refine WL.done ?_
   exact wr_ k1 iq ⟨j + 1, _, by omega, rfl, HJ.next he HI rfl⟩
 · refine wn_ (dF hlt) (WC.exit (via_ hKb ?_))
   obtain rfl : j = n := by omega
   obtain rfl : y = r := HJ.y.trans hr0.symm
   refine WC.seq fun _ hKf => ?_
   refine rg_ ?_
   refine mv_ ?_
   refine as_ ?_
   refine WL.done ?_
   refine via_ hKf ?_
   refine WC.ret ?_
   exact fin1 Try.f129 rfl rfl hR_ ⟨rfl, HJ.m⟩
theorem laws_markCellS.leaf (A : Option Addr) (n c : Nat) (z : Int) (L : List Addr) (w : World) (h : XLeaf.RowLv w (.both (.row (.row (.both .int (.row .int)))) (.row (.row (.both .int (.row .int))))) A n L) (h0 : 0 ≤ z) (h1 : z + (L.length : Int) ≤ 4611686018427387904) (r : Int) (hr0 : r = z + (L.length : Int)) :
   Calls prog 67 #[.slice A n c, vi z] w fun e w' => e = .returned (vi r) ∧ XLeaf.Marked L z w w' := by
 obtain ⟨f, rfl, HJ⟩ := MkJ.start h h0 h1
 clear h h0
 refine cw_ (n := 27) func67 fun R_ hR_ => ?_
 refine WC.seq fun _ hKa => ?_
 refine rg_ ?_
 refine as_ ?_
 refine WL.done ?_
 refine via_ hKa ?_
 refine WC.seq fun _ hKb => ?_
 refine WC.seq fun _ hKc => ?_
 refine rg_ ?_
 refine as_ ?_
 refine WL.done ?_
 refine via_ hKc ?_
 refine WC.block ?_
 refine WC.loop (fun k_ E_ W_ => ∃ (j : Nat) (y : Int), k_ + j = n ∧ E_ = [(0, .slice A n c), (1, vi y), (5, vi (j : Int))] ∧ MkJ w W_ z (.both (.row (.row (.both .int (.row .int)))) (.row (.row (.both .int (.row .int))))) A n f j y) n ⟨0, z, rfl, rfl, HJ⟩ (sb rfl) ?_
 rintro k_ E_ W ⟨j, y, hk, rfl, HJ⟩
 refine WC.seq fun _ hKd => ?_
 refine WC.seq fun _ hKe => ?_
 refine rg_ ?_
 refine mv_ ?_
 refine mv_ ?_
 refine ln_ underlying71 ?_
 refine b_ bin_lss ?_
 refine WL.done ?_
 refine via_ hKe ?_
 by_cases hlt : (j : Int) < (n : Int)
 · refine wy_ (dT hlt) (WC.skip (via_ hKd ?_))
   obtain ⟨k1, rfl⟩ : ∃ k1, k_ = k1 + 1 := ⟨k_ - 1, by omega⟩
   obtain ⟨g, Ls, rfl, hj1, he, HI⟩ := HJ.round (by omega)
   refine WC.seq fun _ hK1 => ?_
   refine WC.block ?_
   refine WC.seq fun _ hK2 => ?_
   refine rg_ ?_
   refine mv_ ?_
   refine mv_ ?_
   refine v_ (Run.eqv (ptr_at g j 2) (ia_ underlying71 2 (Int.natCast_nonneg _) hlt)) ?_
   refine v_ (Run.fieldAddr rfl rfl underlying62 rfl (by kernel_rfl) (Addr.add_mid _ _ _)) ?_
   have h0_ := HI.y0
   obtain ⟨L3, A4, n5, c6, y7, hc8, hR9, hB10, hy11, hI12⟩ := HI.row (i := 0) rfl
   refine v_ (Run.load rfl rfl underlying60 rfl hc8) ?_
   refine mv_ ?_
   refine c_ func129 (laws_markPartSS.leaf A4 n5 c6 y L3 _ hR9 h0_ hB10 y7 hy11) ?_
   rintro _ W14 ⟨rfl, hm_⟩
   replace HI := hI12 W14 hm_
   clear h0_ hm_ hI12 hR9 hB10 hy11
   refine ⟨_, rfl, ?_⟩
   refine as_ ?_
   refine WL.done ?_
   refine via_ hK2 ?_
   refine rg_ ?_
   refine mv_ ?_
   refine mv_ ?_
   refine v_ (Run.eqv (ptr_at g j 2) (ia_ underlying71 2 (Int.natCast_nonneg _) hlt)) ?_
   refine v_ (Run.fieldAddr rfl rfl underlying62 rfl (by kernel_rfl) (Addr.add_mid _ _ _)) ?_
   have h0_ := HI.y0
   obtain ⟨L15, A16, n17, c18, y19, hc20, hR21, hB22, hy23, hI24⟩ := HI.row (i := 1) rfl
   refine v_ (Run.load rfl rfl underlying60 rfl hc20) ?_
   refine mv_ ?_
   refine c_ func129 (laws_markPartSS.leaf A16 n17 c18 y7 L15 _ hR21 h0_ hB22 y19 hy23) ?_
   rintro _ W26 ⟨rfl, hm_⟩
   replace HI := hI24 W26 hm_
   clear h0_ hm_ hI24 hR21 hB22 hy23
   refine ⟨_, rfl, ?_⟩
   refine as_ ?_
   refine WL.done ?_
   refine via_ hK1 ?_
   refine rg_ ?_
   refine mv_ ?_
   refine b_ bin_add64 ?_
   rw [hj1]
   refine as_ ?_
   refine WL.done ?_
   exact wr_ k1 iq ⟨j + 1, _, by omega, rfl, HJ.next he HI rfl⟩
 · refine wn_ (dF hlt) (WC.exit (via_ hKb ?_))
   obtain rfl : j = n := by omega
   obtain rfl : y = r := HJ.y.trans hr0.symm
   refine WC.seq fun _ hKf => ?_
   refine rg_ ?_
   refine mv_ ?_
   refine as_ ?_
   refine WL.done ?_
   refine via_ hKf ?_
   refine WC.ret ?_
   exact fin1 Try.f67 rfl rfl hR_ ⟨rfl, HJ.m⟩
theorem laws_markCellSS.leaf (A : Option Addr) (n c : Nat) (z : Int) (L : List Addr) (w : World) (h : XLeaf.RowLv w (.row (.both (.row (.row (.both .int (.row .int)))) (.row (.row (.both .int (.row .int)))))) A n L) (h0 : 0 ≤ z) (h1 : z + (L.length : Int) ≤ 4611686018427387904) (r : Int) (hr0 : r = z + (L.length : Int)) :
   Calls prog 128 #[.slice A n c, vi z] w fun e w' => e = .returned (vi r) ∧ XLeaf.Marked L z w w' := by
 obtain ⟨f, rfl, HJ⟩ := MkJ.start h h0 h1
 clear h h0
 refine cw_ (n := 19) func128 fun R_ hR_ => ?_
 refine WC.seq fun _ hKa => ?_
 refine rg_ ?_
 refine as_ ?_
 refine WL.done ?_
 refine via_ hKa ?_
 refine WC.seq fun _ hKb => ?_
 refine WC.seq fun _ hKc => ?_
 refine rg_ ?_
 refine as_ ?_
 refine WL.done ?_
 refine via_ hKc ?_
 refine WC.block ?_
 refine WC.loop (fun k_ E_ W_ => ∃ (j : Nat) (y : Int), k_ + j = n ∧ E_ = [(0, .slice A n c), (1, vi y), (5, vi (j : Int))] ∧ MkJ w W_ z (.row (.both (.row (.row (.both .int (.row .int)))) (.row (.row (.both .int (.row .int)))))) A n f j y) n ⟨0, z, rfl, rfl, HJ⟩ (sb rfl) ?_
 rintro k_ E_ W ⟨j, y, hk, rfl, HJ⟩
 refine WC.seq fun _ hKd => ?_
 refine WC.seq fun _ hKe => ?_
 refine rg_ ?_
 refine mv_ ?_
 refine mv_ ?_
 refine ln_ underlying56 ?_
 refine b_ bin_lss ?_
 refine WL.done ?_
 refine via_ hKe ?_
 by_cases hlt : (j : Int) < (n : Int)
 · refine wy_ (dT hlt) (WC.skip (via_ hKd ?_))
   obtain ⟨k1, rfl⟩ : ∃ k1, k_ = k1 + 1 := ⟨k_ - 1, by omega⟩
   obtain ⟨g, Ls, rfl, hj1, he, HI⟩ := HJ.round (by omega)
   refine WC.seq fun _ hK1 => ?_
   refine WC.block ?_
   refine rg_ ?_
   refine mv_ ?_
   refine mv_ ?_
   refine v_ (Run.eqv (ptr_at g j 1) (ia_ underlying56 1 (Int.natCast_nonneg _) hlt)) ?_
   have h0_ := HI.y0
   obtain ⟨L2, A3, n4, c5, y6, hc7, hR8, hB9, hy10, hI11⟩ := HI.row (i := 0) rfl
   refine v_ (Run.load rfl rfl underlying71 rfl hc7) ?_
   refine mv_ ?_
   refine c_ func67 (laws_markCellS.leaf A3 n4 c5 y L2 _ hR8 h0_ hB9 y6 hy10) ?_
   rintro _ W13 ⟨rfl, hm_⟩
   replace HI := hI11 W13 hm_
   clear h0_ hm_ hI11 hR8 hB9 hy10
   refine ⟨_, rfl, ?_⟩
   refine as_ ?_
   refine WL.done ?_
   refine via_ hK1 ?_
   refine rg_ ?_
   refine mv_ ?_
   refine b_ bin_add64 ?_
   rw [hj1]
   refine as_ ?_
   refine WL.done ?_
   exact wr_ k1 iq ⟨j + 1, _, by omega, rfl, HJ.next he HI rfl⟩
 · refine wn_ (dF hlt) (WC.exit (via_ hKb ?_))
   obtain rfl : j = n := by omega
   obtain rfl : y = r := HJ.y.trans hr0.symm
   refine WC.seq fun _ hKf => ?_
   refine rg_ ?_
   refine mv_ ?_
   refine as_ ?_
   refine WL.done ?_
   refine via_ hKf ?_
   refine WC.ret ?_
   exact fin1 Try.f128 rfl rfl hR_ ⟨rfl, HJ.m⟩
theorem laws_heldIntS.leaf (A : Option Addr) (n c : Nat) (z : Int) (L : List Addr) (w : World) (h : XLeaf.RowLv w .int A n L) (ht : XLeaf.ToldAt w L z) (h0 : 0 ≤ z) (h1 : z + (L.length : Int) ≤ 4611686018427387904) (r : Int) (hr0 : r = z + (L.length : Int)) :
   Calls prog 32 #[.slice A n c, vi z] w fun e w' => e = .returned (vi r) ∧ Below w.heap.size w w' := by
 obtain ⟨f, rfl, HJ⟩ := HeJ.start h ht h0 h1
 clear h h0 ht
 refine cw_ (n := 21) func32 fun R_ hR_ => ?_
 refine WC.seq fun _ hKa => ?_
 refine rg_ ?_
 refine as_ ?_
 refine WL.done ?_
 refine via_ hKa ?_
 refine WC.seq fun _ hKb => ?_
 refine WC.seq fun _ hKc => ?_
 refine rg_ ?_
 refine as_ ?_
 refine WL.done ?_
 refine via_ hKc ?_
 refine WC.block ?_
 refine WC.loop (fun k_ E_ W_ => ∃ (j : Nat) (y : Int), k_ + j = n ∧ E_ = [(0, .slice A n c), (1, vi y), (5, vi (j : Int))] ∧ HeJ w W_ z .int A n f j y) n ⟨0, z, rfl, rfl, HJ⟩ (sb rfl) ?_
 rintro k_ E_ W ⟨j, y, hk, rfl, HJ⟩
 refine WC.seq fun _ hKd => ?_
 refine WC.seq fun _ hKe => ?_
 refine rg_ ?_
 refine mv_ ?_
 refine mv_ ?_
 refine ln_ underlying22 ?_
 refine b_ bin_lss ?_
 refine WL.done ?_
 refine via_ hKe ?_
 by_cases hlt : (j : Int) < (n : Int)
 · refine wy_ (dT hlt) (WC.skip (via_ hKd ?_))
   obtain ⟨k1, rfl⟩ : ∃ k1, k_ = k1 + 1 := ⟨k_ - 1, by omega⟩
   obtain ⟨g, Ls, rfl, hj1, he, HI⟩ := HJ.round (by omega)
   refine WC.seq fun _ hK1 => ?_
   refine WC.block ?_
   refine WC.seq fun _ hK2 => ?_
   refine WC.seq fun _ hK3 => ?_
   refine rg_ ?_
   refine mv_ ?_
   refine mv_ ?_
   refine v_ (Run.eqv (ptr_at g j 1) (ia_ underlying22 1 (Int.natCast_nonneg _) hlt)) ?_
   obtain ⟨y4, hc5, hw6, HI⟩ := HI.int (i := 0) rfl
   refine v_ (Run.load rfl rfl underlying3 rfl hc5) ?_
   refine mv_ ?_
   refine b_ bin_neq ?_
   refine WL.done ?_
   refine via_ hK3 ?_
   refine wn_ (qF rfl) ?_
   refine WC.skip ?_
   refine via_ hK2 ?_
   refine rg_ ?_
   refine mv_ ?_
   refine b_ bin_add64 ?_
   rw [hw6]
   clear hw6
   refine as_ ?_
   refine WL.done ?_
   refine via_ hK1 ?_
   refine rg_ ?_
   refine mv_ ?_
   refine b_ bin_add64 ?_
   rw [hj1]
   refine as_ ?_
   refine WL.done ?_
   exact wr_ k1 iq ⟨j + 1, _, by omega, rfl, HJ.next he HI rfl⟩
 · refine wn_ (dF hlt) (WC.exit (via_ hKb ?_))
   obtain rfl : j = n := by omega
   obtain rfl : y = r := HJ.y.trans hr0.symm
   refine WC.seq fun _ hKf => ?_
   refine rg_ ?_
   refine mv_ ?_
   refine as_ ?_
   refine WL.done ?_
   refine via_ hKf ?_
   refine WC.ret ?_
   exact fin1 Try.f32 rfl rfl hR_ ⟨rfl, HJ.m⟩
theorem laws_heldPartS.leaf (A : Option Addr) (n c : Nat) (z : Int) (L : List Addr) (w : World) (h : XLeaf.RowLv w (.both .int (.row .int)) A n L) (ht : XLeaf.ToldAt w L z) (h0 : 0 ≤ z) (h1 : z + (L.length : Int) ≤ 4611686018427387904) (r : Int) (hr0 : r = z + (L.length : Int)) :
   Calls prog 154 #[.slice A n c, vi z] w fun e w' => e = .returned (vi r) ∧ Below w.heap.size w w' := by
 obtain ⟨f, rfl, HJ⟩ := HeJ.start h ht h0 h1
 clear h h0 ht
 refine cw_ (n := 31) func154 fun R_ hR_ => ?_
 refine WC.seq fun _ hKa => ?_
 refine rg_ ?_
 refine as_ ?_
 refine WL.done ?_
 refine via_ hKa ?_
 refine WC.seq fun _ hKb => ?_
 refine WC.seq fun _ hKc => ?_
 refine rg_ ?_
 refine as_ ?_
 refine WL.done ?_
 refine via_ hKc ?_
 refine WC.block ?_
 refine WC.loop (fun k_ E_ W_ => ∃ (j : Nat) (y : Int), k_ + j = n ∧ E_ = [(0, .slice A n c), (1, vi y), (5, vi (j : Int))] ∧ HeJ w W_ z (.both .int (.row .int)) A n f j y) n ⟨0, z, rfl, rfl, HJ⟩ (sb rfl) ?_
 rintro k_ E_ W ⟨j, y, hk, rfl, HJ⟩
 refine WC.seq fun _ hKd => ?_
 refine WC.seq fun _ hKe => ?_
 refine rg_ ?_
 refine mv_ ?_
 refine mv_ ?_
 refine ln_ underlying133 ?_
 refine b_ bin_lss ?_
 refine WL.done ?_
 refine via_ hKe ?_
 by_cases hlt : (j : Int) < (n : Int)
 · refine wy_ (dT hlt) (WC.skip (via_ hKd ?_))
   obtain ⟨k1, rfl⟩ : ∃ k1, k_ = k1 + 1 := ⟨k_ - 1, by omega⟩
   obtain ⟨g, Ls, rfl, hj1, he, HI⟩ := HJ.round (by omega)
   refine WC.seq fun _ hK1 => ?_
   refine WC.block ?_
   refine WC.seq fun _ hK2 => ?_
   refine WC.seq fun _ hK3 => ?_
   refine rg_ ?_
   refine mv_ ?_
   refine mv_ ?_
   refine v_ (Run.eqv (ptr_at g j 2) (ia_ underlying133 2 (Int.natCast_nonneg _) hlt)) ?_
   refine v_ (Run.fieldAddr rfl rfl underlying149 rfl (by kernel_rfl) (Addr.add_mid _ _ _)) ?_
   obtain ⟨y4, hc5, hw6, HI⟩ := HI.int (i := 0) rfl
   refine v_ (Run.load rfl rfl underlying3 rfl hc5) ?_
   refine mv_ ?_
   refine b_ bin_neq ?_
   refine WL.done ?_
   refine via_ hK3 ?_
   refine wn_ (qF rfl) ?_
   refine WC.skip ?_
   refine via_ hK2 ?_
   refine WC.seq fun _ hK7 => ?_
   refine rg_ ?_
   refine mv_ ?_
   refine b_ bin_add64 ?_
   rw [hw6]
   clear hw6
   refine as_ ?_
   refine WL.done ?_
   refine via_ hK7 ?_
   refine WC.seq fun _ hK8 => ?_
   refine rg_ ?_
   refine mv_ ?_
   refine mv_ ?_
   refine v_ (Run.eqv (ptr_at g j 2) (ia_ underlying133 2 (Int.natCast_nonneg _) hlt)) ?_
   refine v_ (Run.fieldAddr rfl rfl underlying149 rfl (by kernel_rfl) (Addr.add_mid _ _ _)) ?_
   have h0_ := HI.y0
   obtain ⟨L9, A10, n11, c12, y13, hc14, hR15, hT19, hB16, hy17, hI18⟩ := HI.row (i := 1) rfl
   refine v_ (Run.load rfl rfl underlying22 rfl hc14) ?_
   refine mv_ ?_
   refine c_ func32 (laws_heldIntS.leaf A10 n11 c12 y4 L9 _ hR15 hT19 h0_ hB16 y13 hy17) ?_
   rintro _ W20 ⟨rfl, hm_⟩
   replace HI := hI18 W20 hm_
   clear h0_ hm_ hI18 hR15 hB16 hy17
   refine ⟨_, rfl, ?_⟩
   refine as_ ?_
   refine WL.done ?_
   refine via_ hK8 ?_
   refine WC.seq fun _ hK21 => ?_
   refine rg_ ?_
   refine mv_ ?_
   refine b_ bin_lss ?_
   refine WL.done ?_
   refine via_ hK21 ?_
   refine wn_ (dF (show ¬ (y13 < 0) from Int.not_lt.mpr HI.y0)) ?_
   refine WC.skip ?_
   refine via_ hK1 ?_
   refine rg_ ?_
   refine mv_ ?_
   refine b_ bin_add64 ?_
   rw [hj1]
   refine as_ ?_
   refine WL.done ?_
   exact wr_ k1 iq ⟨j + 1, _, by omega, rfl, HJ.next he HI rfl⟩
 · refine wn_ (dF hlt) (WC.exit (via_ hKb ?_))
   obtain rfl : j = n := by omega
   obtain rfl : y = r := HJ.y.trans hr0.symm
   refine WC.seq fun _ hKf => ?_
   refine rg_ ?_
   refine mv_ ?_
   refine as_ ?_
   refine WL.done ?_
   refine via_ hKf ?_
   refine WC.ret ?_
   exact fin1 Try.f154 rfl rfl hR_ ⟨rfl, HJ.m⟩
theorem laws_heldPartSS.leaf (A : Option Addr) (n c : Nat) (z : Int) (L : List Addr) (w : World) (h : XLeaf.RowLv w (.row (.both .int (.row .int))) A n L) (ht : XLeaf.ToldAt w L z) (h0 : 0 ≤ z) (h1 : z + (L.length : Int) ≤ 4611686018427387904) (r : Int) (hr0 : r = z + (L.length : Int)) :
   Calls prog 130 #[.slice A n c, vi z] w fun e w' => e = .returned (vi r) ∧ Below w.heap.size w w' := by
 obtain ⟨f, rfl, HJ⟩ := HeJ.start h ht h0 h1
 clear h h0 ht
 refine cw_ (n := 21) func130 fun R_ hR_ => ?_
 refine WC.seq fun _ hKa => ?_
 refine rg_ ?_
 refine as_ ?_
 refine WL.done ?_
 refine via_ hKa ?_
 refine WC.seq fun _ hKb => ?_
 refine WC.seq fun _ hKc => ?_
 refine rg_ ?_
 refine as_ ?_
 refine WL.done ?_
 refine via_ hKc ?_
 refine WC.block ?_
 refine WC.loop (fun k_ E_ W_ => ∃ (j : Nat) (y : Int), k_ + j = n ∧ E_ = [(0, .slice A n c), (1, vi y), (5, vi (j : Int))] ∧ HeJ w W_ z (.row (.both .int (.row .int))) A n f j y) n ⟨0, z, rfl, rfl, HJ⟩ (sb rfl) ?_
 rintro k_ E_ W ⟨j, y, hk, rfl, HJ⟩
 refine WC.seq fun _ hKd => ?_
 refine WC.seq fun _ hKe => ?_
 refine rg_ ?_
 refine mv_ ?_
 refine mv_ ?_
 refine ln_ underlying60 ?_
 refine b_ bin_lss ?_
 refine WL.done ?_
 refine via_ hKe ?_
 by_cases hlt : (j : Int) < (n : Int)
 · refine wy_ (dT hlt) (WC.skip (via_ hKd ?_))
   obtain ⟨k1, rfl⟩ : ∃ k1, k_ = k1 + 1 := ⟨k_ - 1, by omega⟩
   obtain ⟨g, Ls, rfl, hj1, he, HI⟩ := HJ.round (by omega)
   refine WC.seq fun _ hK1 => ?_
   refine WC.block ?_
   refine WC.seq fun _ hK2 => ?_
   refine rg_ ?_
   refine mv_ ?_
   refine mv_ ?_
   refine v_ (Run.eqv (ptr_at g j 1) (ia_ underlying60 1 (Int.natCast_nonneg _) hlt)) ?_
   have h0_ := HI.y0
   obtain ⟨L3, A4, n5, c6, y7, hc8, hR9, hT13, hB10, hy11, hI12⟩ := HI.row (i := 0) rfl
   refine v_ (Run.load rfl rfl underlying133 rfl hc8) ?_
   refine mv_ ?_
   refine c_ func154 (laws_heldPartS.leaf A4 n5 c6 y L3 _ hR9 hT13 h0_ hB10 y7 hy11) ?_
   rintro _ W14 ⟨rfl, hm_⟩
   replace HI := hI12 W14 hm_
   clear h0_ hm_ hI12 hR9 hB10 hy11
   refine ⟨_, rfl, ?_⟩
   refine as_ ?_
   refine WL.done ?_
   refine via_ hK2 ?_
   refine WC.seq fun _ hK15 => ?_
   refine rg_ ?_
   refine mv_ ?_
   refine b_ bin_lss ?_
   refine WL.done ?_
   refine via_ hK15 ?_
   refine wn_ (dF (show ¬ (y7 < 0) from Int.not_lt.mpr HI.y0)) ?_
   refine WC.skip ?_
   refine via_ hK1 ?_
   refine rg_ ?_
   refine mv_ ?_
   refine b_ bin_add64 ?_
   rw [hj1]
   refine as_ ?_
   refine WL.done ?_
   exact wr_ k1 iq ⟨j + 1, _, by omega, rfl, HJ.next he HI rfl⟩
 · refine wn_ (dF hlt) (WC.exit (via_ hKb ?_))
   obtain rfl : j = n := by omega
   obtain rfl : y = r := HJ.y.trans hr0.symm
   refine WC.seq fun _ hKf => ?_
   refine rg_ ?_
   refine mv_ ?_
   refine as_ ?_
   refine WL.done ?_
   refine via_ hKf ?_
   refine WC.ret ?_
   exact fin1 Try.f130 rfl rfl hR_ ⟨rfl, HJ.m⟩
theorem laws_heldCellS.leaf (A : Option Addr) (n c : Nat) (z : Int) (L : List Addr) (w : World) (h : XLeaf.RowLv w (.both (.row (.row (.both .int (.row .int)))) (.row (.row (.both .int (.row .int))))) A n L) (ht : XLeaf.ToldAt w L z) (h0 : 0 ≤ z) (h1 : z + (L.length : Int) ≤ 4611686018427387904) (r : Int) (hr0 : r = z + (L.length : Int)) :
   Calls prog 68 #[.slice A n c, vi z] w fun e w' => e = .returned (vi r) ∧ Below w.heap.size w w' := by
 obtain ⟨f, rfl, HJ⟩ := HeJ.start h ht h0 h1
 clear h h0 ht
 refine cw_ (n := 31) func68 fun R_ hR_ => ?_
 refine WC.seq fun _ hKa => ?_
 refine rg_ ?_
 refine as_ ?_
 refine WL.done ?_
 refine via_ hKa ?_
 refine WC.seq fun _ hKb => ?_
 refine WC.seq fun _ hKc => ?_
 refine rg_ ?_
 refine as_ ?_
 refine WL.done ?_
 refine via_ hKc ?_
 refine WC.block ?_
 refine WC.loop (fun k_ E_ W_ => ∃ (j : Nat) (y : Int), k_ + j = n ∧ E_ = [(0, .slice A n c), (1, vi y), (5, vi (j : Int))] ∧ HeJ w W_ z (.both (.row (.row (.both .int (.row .int)))) (.row (.row (.both .int (.row .int))))) A n f j y) n ⟨0, z, rfl, rfl, HJ⟩ (sb rfl) ?_
 rintro k_ E_ W ⟨j, y, hk, rfl, HJ⟩
 refine WC.seq fun _ hKd => ?_
 refine WC.seq fun _ hKe => ?_
 refine rg_ ?_
 refine mv_ ?_
 refine mv_ ?_
 refine ln_ underlying71 ?_
 refine b_ bin_lss ?_
 refine WL.done ?_
 refine via_ hKe ?_
 by_cases hlt : (j : Int) < (n : Int)
 · refine wy_ (dT hlt) (WC.skip (via_ hKd ?_))
   obtain ⟨k1, rfl⟩ : ∃ k1, k_ = k1 + 1 := ⟨k_ - 1, by omega⟩
   obtain ⟨g, Ls, rfl, hj1, he, HI⟩ := HJ.round (by omega)
   refine WC.seq fun _ hK1 => ?_
   refine WC.block ?_
   refine WC.seq fun _ hK2 => ?_
   refine rg_ ?_
   refine mv_ ?_
   refine mv_ ?_
   refine v_ (Run.eqv (ptr_at g j 2) (ia_ underlying71 2 (Int.natCast_nonneg _) hlt)) ?_
   refine v_ (Run.fieldAddr rfl rfl underlying62 rfl (by kernel_rfl) (Addr.add_mid _ _ _)) ?_
   have h0_ := HI.y0
   obtain ⟨L3, A4, n5, c6, y7, hc8, hR9, hT13, hB10, hy11, hI12⟩ := HI.row (i := 0) rfl
   refine v_ (Run.load rfl rfl underlying60 rfl hc8) ?_
   refine mv_ ?_
   refine c_ func130 (laws_heldPartSS.leaf A4 n5 c6 y L3 _ hR9 hT13 h0_ hB10 y7 hy11) ?_
   rintro _ W14 ⟨rfl, hm_⟩
   replace HI := hI12 W14 hm_
   clear h0_ hm_ hI12 hR9 hB10 hy11
   refine ⟨_, rfl, ?_⟩
   refine as_ ?_
   refine WL.done ?_
   refine via_ hK2 ?_
   refine WC.seq fun _ hK15 => ?_
   refine WC.seq fun _ hK16 => ?_
   refine rg_ ?_
   refine mv_ ?_
   refine b_ bin_lss ?_
   refine WL.done ?_
   refine via_ hK16 ?_
   refine wn_ (dF (show ¬ (y7 < 0) from Int.not_lt.mpr HI.y0)) ?_
   refine WC.skip ?_
   refine via_ hK15 ?_
   refine WC.seq fun _ hK17 => ?_
   refine rg_ ?_
   refine mv_ ?_
   refine mv_ ?_
   refine v_ (Run.eqv (ptr_at g j 2) (ia_ underlying71 2 (Int.natCast_nonneg _) hlt)) ?_
   refine v_ (Run.fieldAddr rfl rfl underlying62 rfl (by kernel_rfl) (Addr.add_mid _ _ _)) ?_
   have h0_ := HI.y0
   obtain ⟨L18, A19, n20, c21, y22, hc23, hR24, hT28, hB25, hy26, hI27⟩ := HI.row (i := 1) rfl
   refine v_ (Run.load rfl rfl underlying60 rfl hc23) ?_
   refine mv_ ?_
   refine c_ func130 (laws_heldPartSS.leaf A19 n20 c21 y7 L18 _ hR24 hT28 h0_ hB25 y22 hy26) ?_
   rintro _ W29 ⟨rfl, hm_⟩
   replace HI := hI27 W29 hm_
   clear h0_ hm_ hI27 hR24 hB25 hy26
   refine ⟨_, rfl, ?_⟩
   refine as_ ?_
   refine WL.done ?_
   refine via_ hK17 ?_
   refine WC.seq fun _ hK30 => ?_
   refine rg_ ?_
   refine mv_ ?_
   refine b_ bin_lss ?_
   refine WL.done ?_
   refine via_ hK30 ?_
   refine wn_ (dF (show ¬ (y22 < 0) from Int.not_lt.mpr HI.y0)) ?_
   refine WC.skip ?_
   refine via_ hK1 ?_
   refine rg_ ?_
   refine mv_ ?_
   refine b_ bin_add64 ?_
   rw [hj1]
   refine as_ ?_
   refine WL.done ?_
   exact wr_ k1 iq ⟨j + 1, _, by omega, rfl, HJ.next he HI rfl⟩
 · refine wn_ (dF hlt) (WC.exit (via_ hKb ?_))
   obtain rfl : j = n := by omega
   obtain rfl : y = r := HJ.y.trans hr0.symm
   refine WC.seq fun _ hKf => ?_
   refine rg_ ?_
   refine mv_ ?_
   refine as_ ?_
   refine WL.done ?_
   refine via_ hKf ?_
   refine WC.ret ?_
   exact fin1 Try.f68 rfl rfl hR_ ⟨rfl, HJ.m⟩
def slices_Clone_int_int.g0 (k : Nat) (l0 : List Int) : Option (List Int) := (if (0) + (l0.length) < 4294967296 then (some (([] : List Int) ++ l0)) else none)
theorem slices_Clone_int_int.runs0 (k : Nat) (ad0 : Addr) (c0 : Nat) (l0 : List Int) (r : List Int) (w : World) (hr0 : kI.C w (some ad0) l0.length l0) (hc0 : l0.length ≤ c0) (H : slices_Clone_int_int.g0 k l0 = some r) :
   Calls prog 78 #[.slice (some ad0) l0.length c0] w fun e w' => ∃ (v0_ : Value) (bl0_ : List Nat), e = .returned (v0_) ∧ Owns w' w.heap.size [valM (Dk.slice 3 (Dk.int .i64)) r [v0_] bl0_] ∧ Below w.heap.size w w' := by
 unfold slices_Clone_int_int.g0 at H
 have HS : St (fun _ => True) w w [] [(cF kI (some ad0) l0)] [] := St.start (foot_cons (foot_C (Kd.heap_int _) hr0) foot_nil)
 refine cw_ (n := 8) func78 fun R_ hR_ => ?_
 refine sr_ fun _ hK1 => ?_
 refine ad_ hK1 ?_
 refine WC.seq fun _ hK2 => ?_
 refine sr_ fun _ hK3 => ?_
 refine mv_ ?_
 refine v_ (Run.eqNil rfl rfl rfl underlying22) ?_
 refine dn_ hK3 (wn_ rfl ?_)
 refine WC.skip (via_ hK2 (sr_ fun _ hK4 => ?_))
 refine WL.lit0 HS rfl rfl (by decide) rfl underlying22 (sz := 1) (by kernel_rfl) (fun v5 w6 HS => ?_)
 replace HS := HS.deriveN (p := (rF kI ([] : List Int) [])) (fun _ _ => Reps.none _ _)
 refine mv_ ?_
 obtain ⟨q7, H⟩ := if_some H
 obtain ⟨L8, hl9, h10, hF11, hc12⟩ := foot_all (HS.footO 0 rfl) (by decide) rfl
 replace HS := HS.addN (p := (rF kI l0 L8)) (fun W_ _ => hF11.now)
 refine WL.appendL HS 0 rfl rfl rfl (by decide) rfl (vi 0) 8 underlying22 (by kernel_rfl) rfl (by decide) (by decide) rfl rfl L8 hl9 hc12 h10 (by omega) ((([] : List Int) ++ l0).length) (by simp <;> omega) (fun v13 w14 I15 hI16 HS => ?_)
 dsimp only [List.set] at HS
 replace HS := HS.deriveN (p := (rF kI (([] : List Int) ++ l0) I15)) (fun W_ hN_ => reps_more hI16 hN_.2.1 hN_.1)
 refine ad_ hK4 ?_
 refine WC.ret ?_
 obtain ⟨A17, c18, rfl⟩ := row_slice (HS.mu 0 rfl)
 replace HS := HS.elsF (xs := (([] : List Int) ++ l0)) (inner := I15) (Dk.int .i64) (fun _ _ _ h_ => ⟨h_, rfl⟩) (fun _ => (HS.getN 0 rfl))
 replace HS := HS.front 1 rfl
 dsimp only [List.eraseIdx] at HS
 replace HS := HS.seal rfl rfl
 obtain rfl := os H
 exact fin1 Try.f78 rfl rfl hR_ ⟨_, _, rfl, (St.owns HS), HS.b⟩
def slices_Clone_int_int.g (k : Nat) (l0 : List Int) : Option (List Int) := if l0.length < 4294967296 then some l0 else none
theorem slices_Clone_int_int.runs (k : Nat) (A0 : Option Addr) (c0 : Nat) (l0 r : List Int) (w : World) (hr0 : kI.C w A0 l0.length l0) (hc0 : l0.length ≤ c0) (H : slices_Clone_int_int.g k l0 = some r) :
   Calls prog 78 #[.slice A0 l0.length c0] w fun e w' => ∃ (v0_ : Value) (bl0_ : List Nat), e = .returned (v0_) ∧ Owns w' w.heap.size [valM (Dk.slice 3 (Dk.int .i64)) r [v0_] bl0_] ∧ Below w.heap.size w w' := by
 unfold slices_Clone_int_int.g at H
 obtain ⟨q, H⟩ := if_some H
 obtain rfl := os H
 cases A0 with
 | some ad => exact slices_Clone_int_int.runs0 k ad c0 _ _ w hr0 hc0 (by unfold slices_Clone_int_int.g0; rw [if_pos (by omega)]; rfl)
 | none =>
   obtain rfl := C_nilL hr0
   have HS : St (fun _ => True) w w [] [] [] := St.start foot_nil
   refine cw_ (n := 8) func78 fun R_ hR_ => ?_
   refine sr_ fun _ hK1 => ?_
   refine ad_ hK1 ?_
   refine WC.seq fun _ hK2 => ?_
   refine sr_ fun _ hK3 => ?_
   refine mv_ ?_
   refine v_ (Run.eqNil rfl rfl rfl underlying22) ?_
   refine dn_ hK3 (wy_ rfl ?_)
   refine sr_ fun _ hK4 => ?_
   refine ad_ hK4 ?_
   refine WC.ret ?_
   exact fin1 Try.f78 rfl rfl hR_ ⟨_, _, rfl, St.owns (HS.nilV (α := Int) 3 (Dk.int .i64)), HS.b⟩
theorem slices_Clone_impl_Part_impl_Part.st {ok0 : Nat → Prop} {w0 : World} {ms : List Mu} {fo fn : List Fact} (A0 : Option Addr) (c0 : Nat) (l0 : List S149) (w : World) (HS : St ok0 w0 w ms ((cF k149 A0 l0) :: fo) fn) (hl : l0.length < 4294967296) :
   Calls prog 160 #[.slice A0 l0.length c0] w fun e w' => ∃ (v : Value) (I : List Value), e = .returned (v) ∧ St ok0 w0 w' (rowM w0.heap.size 149 2 v l0.length I :: ms) ((rF k149 l0 I) :: fo) fn := by
 refine cw_ (n := 8) func160 fun R_ hR_ => ?_
 refine sr_ fun _ hK1 => ?_
 refine ad_ hK1 ?_
 refine WC.seq fun _ hK2 => ?_
 refine sr_ fun _ hK3 => ?_
 refine mv_ ?_
 refine v_ (Run.eqNil rfl rfl rfl underlying133) ?_
 cases A0 with
 | some ad =>
   refine dn_ hK3 (wn_ rfl ?_)
   refine WC.skip (via_ hK2 (sr_ fun _ hK4 => ?_))
   refine WL.lit0 HS rfl rfl (by decide) rfl underlying133 (sz := 2) (by kernel_rfl) (fun v5 w6 HS => ?_)
   refine mv_ ?_
   obtain ⟨L8, hl9, h10, hF11, hc12⟩ := foot_all (HS.footO 0 rfl) (by decide) rfl
   replace HS := HS.addO (p := (rF k149 l0 L8)) hF11
   refine WL.appendL HS 0 rfl rfl rfl (by decide) rfl (.agg #[vi 0, sn]) 32 underlying133 (by kernel_rfl) rfl (by decide) (by decide) rfl rfl L8 hl9 hc12 h10 (by omega) (l0.length) (by omega) (fun v13 w14 I15 hI16 HS => ?_)
   dsimp only [List.set] at HS
   rw [List.nil_append] at hI16
   subst hI16
   refine ad_ hK4 ?_
   refine WC.ret ?_
   exact fin1 Try.f160 rfl rfl hR_ ⟨_, _, rfl, HS.pickO (fun W h => ⟨h.1, h.2.2⟩)⟩
 | none =>
   obtain rfl := C_nilL (HS.getO 0 rfl)
   refine dn_ hK3 (wy_ rfl ?_)
   refine sr_ fun _ hK4 => ?_
   refine ad_ hK4 ?_
   refine WC.ret ?_
   exact fin1 Try.f160 rfl rfl hR_ ⟨_, _, rfl, ((HS.rowNil 149 2).deriveO (p := (rF k149 ([] : List S149) [])) (fun _ _ _ => Reps.none _ _)).pickO (fun W h => ⟨h.1, h.2.2⟩)⟩
def impl_cloneParts.g (k : Nat) (l0 : List (List S149)) : Option (List (List S149)) := if l0.length < 4294967296 ∧ (l0.all fun l => decide (l.length < 4294967296) && l.all fun p => decide (p.f1.length < 4294967296)) = true then some l0 else none
theorem impl_cloneParts.runs (k : Nat) (A0 : Option Addr) (c0 : Nat) (l0 r : List (List S149)) (w : World) (hr0 : kS149.C w A0 l0.length l0) (hc0 : l0.length ≤ c0) (H : impl_cloneParts.g k l0 = some r) :
   Calls prog 143 #[.slice A0 l0.length c0] w fun e w' => ∃ (v0_ : Value) (bl0_ : List Nat), e = .returned (v0_) ∧ Owns w' w.heap.size [valM (Dk.slice 133 (Dk.slice 149 dq149)) r [v0_] bl0_] ∧ Below w.heap.size w w' := by
 unfold impl_cloneParts.g at H
 obtain ⟨⟨hn, hq⟩, H⟩ := if_some H
 obtain rfl := os H
 clear H
 have hq1 : ∀ i, i < l0.length → (l0.getD i []).length < 4294967296 ∧ ∀ x, x ∈ l0.getD i [] → x.f1.length < 4294967296 := fun i hi => by
   have hm : l0.getD i [] ∈ l0 := by rw [List.getD_eq_getElem?_getD, List.getElem?_eq_getElem hi]; exact List.getElem_mem hi
   have h1 := List.all_eq_true.mp hq _ hm
   rw [Bool.and_eq_true] at h1
   exact ⟨of_decide_eq_true h1.1, fun x hx => of_decide_eq_true (List.all_eq_true.mp h1.2 x hx)⟩
 clear hq
 have HS : St (fun _ => True) w w [] [(cF kS149 A0 l0)] [] := St.start (foot_cons (foot_C (Kd.heap_slice _ h149) hr0) foot_nil)
 clear hr0
 refine cw_ (n := 38) func143 fun R_ hR_ => ?_
 refine sr_ fun _ hK1 => ?_
 refine ad_ hK1 ?_
 refine sr_ fun _ hK2 => ?_
 refine ad_ hK2 ?_
 refine WC.seq fun _ hK3 => ?_
 refine sr_ fun _ hK4 => ?_
 refine mv_ ?_
 refine ln_ underlying60 ?_
 refine mv_ ?_
 refine dn_ hK4 ?_
 refine WC.block ?_
 replace HS := HS.rowNil 133 1
 replace HS := HS.els0 (Dk.slice 149 dq149)
 refine WC.loop (fun k_ E_ W_ => ∃ (i : Nat) (v : Value) (I : List Value) (bl : List Nat), k_ + i = l0.length ∧ E_ = [(3, v), (9, .slice A0 l0.length c0), (10, vi (l0.length : Int)), (11, vi (i : Int))] ∧ St (fun _ => True) w W_ [elsM (Dk.slice 149 dq149) (l0.take i) I bl, rowM w.heap.size 133 1 v i I] [(cF kS149 A0 l0)] []) l0.length ⟨0, _, _, _, rfl, rfl, HS⟩ (sb rfl) ?_
 rintro k_ E_ w1 ⟨i, v, I, bl, hk, rfl, HS⟩
 refine sr_ fun _ hK6 => ?_
 refine b_ bin_lss ?_
 refine dn_ hK6 ?_
 refine WC.seq fun _ hK7 => ?_
 by_cases hlt : (i : Int) < (l0.length : Int)
 · refine wy_ (dT hlt) (WC.skip (via_ hK7 ?_))
   obtain ⟨k1, rfl⟩ : ∃ k1, k_ = k1 + 1 := ⟨k_ - 1, by omega⟩
   have hil : i < l0.length := by omega
   obtain ⟨hl1, hl2⟩ := hq1 i hil
   obtain ⟨ad, rfl⟩ := C_open (HS.getO 0 rfl) (by omega)
   obtain ⟨A1, c1, hc1, HS⟩ := HS.slO 0 rfl (i : Int) (Int.natCast_nonneg _) hlt
   rw [Int.toNat_natCast] at HS hc1
   have htk : l0.take (i + 1) = l0.take i ++ [l0.getD i []] := by rw [List.take_add_one, List.getElem?_eq_getElem hil, List.getD_eq_getElem?_getD, List.getElem?_eq_getElem hil]; rfl
   generalize l0.getD i [] = l at *
   refine WC.seq fun _ hK8 => ?_
   refine WC.block ?_
   refine sr_ fun _ hK9 => ?_
   refine v_ (ia_ underlying60 1 (Int.natCast_nonneg _) hlt) ?_
   refine v_ (Run.load rfl rfl underlying133 rfl (HS.getO 1 rfl)) ?_
   refine ad_ hK9 ?_
   refine sr_ fun _ hK10 => ?_
   refine mv_ ?_
   refine c_ func160 (slices_Clone_impl_Part_impl_Part.st A1 c1 l _ HS hl1) ?_
   clear HS
   rintro _ w2 ⟨v6, I6, rfl, HS⟩
   refine ⟨_, rfl, ?_⟩
   refine ad_ hK10 ?_
   obtain ⟨A6, c6, rfl⟩ := row_slice (HS.mu 0 rfl)
   replace HS := (HS.els0 dq149).pickO (fo' := [(rF k149 l I6), (cF kS149 (some ad) l0)]) (fun W h => ⟨h.1, h.2.2.1, trivial⟩)
   refine WC.seq fun _ hK11 => ?_
   refine sr_ fun _ hK12 => ?_
   refine mv_ ?_
   refine ln_ underlying133 ?_
   refine mv_ ?_
   refine dn_ hK12 ?_
   refine WC.block ?_
   refine WC.loop (fun k2_ E_ W_ => ∃ (j : Nat) (P S : List Value) (b2 : List Nat), k2_ + j = l.length ∧ P.length = j * 2 ∧ E_ = [(3, v), (6, .slice A6 l.length c6), (9, .slice (some ad) l0.length c0), (10, vi (l0.length : Int)), (11, vi (i : Int)), (17, .slice A6 l.length c6), (18, vi (l.length : Int)), (19, vi (j : Int))] ∧ St (fun _ => True) w W_ [elsM dq149 (l.take j) P b2, rowM w.heap.size 149 2 (.slice A6 l.length c6) l.length (P ++ S), elsM (Dk.slice 149 dq149) (l0.take i) I bl, rowM w.heap.size 133 1 v i I] [(rF k149 (l.drop j) S), (cF kS149 (some ad) l0)] []) l.length ⟨0, [], I6, _, rfl, rfl, rfl, HS⟩ (sb rfl) ?_
   clear HS
   rintro k2_ E_ w3 ⟨j, P, S, b2, hk2, hP, rfl, HS⟩
   refine sr_ fun _ hK13 => ?_
   refine b_ bin_lss ?_
   refine dn_ hK13 ?_
   refine WC.seq fun _ hK14 => ?_
   by_cases hlt2 : (j : Int) < (l.length : Int)
   · refine wy_ (dT hlt2) (WC.skip (via_ hK14 ?_))
     obtain ⟨k3, rfl⟩ : ∃ k3, k2_ = k3 + 1 := ⟨k2_ - 1, by omega⟩
     have hjl : j < l.length := by omega
     obtain ⟨x, hx1, hx2, hx3⟩ : ∃ x, l.drop j = x :: l.drop (j + 1) ∧ l.take (j + 1) = l.take j ++ [x] ∧ x ∈ l := ⟨l[j], List.drop_eq_getElem_cons hjl, by rw [List.take_add_one, List.getElem?_eq_getElem hjl]; rfl, List.getElem_mem hjl⟩
     have hlx := hl2 x hx3
     rw [hx1] at HS
     obtain ⟨A7, c7, S', rfl, hle7⟩ : ∃ A7 c7 S', S = vi x.f0 :: .slice A7 x.f1.length c7 :: S' ∧ x.f1.length ≤ c7 := by
       obtain ⟨hKx, hS'⟩ := reps_uncons (HS.getO 0 rfl)
       obtain ⟨c0', c1', e0, rfl, A7, c7, rfl, hle, _⟩ := hKx
       refine ⟨A7, c7, S.drop 2, ?_, hle⟩
       conv => lhs; rw [← List.take_append_drop 2 S]
       rw [show S.take 2 = [vi x.f0] ++ [.slice A7 x.f1.length c7] from e0]
       rfl
     replace HS := HS.deriveO (p := (rF k149 (l.drop (j + 1)) S')) (fun W hO _ => (reps_uncons hO.1).2)
     replace HS := HS.deriveO (p := (cF kI A7 x.f1)) (fun W hO _ => by
       obtain ⟨c0', c1', e0, rfl, A8, c8, rfl, _, hC⟩ := (reps_uncons hO.2.1).1
       have e1 : [Value.int .i64 x.f0, .slice A7 x.f1.length c7] = [vi x.f0] ++ [.slice A8 x.f1.length c8] := e0
       injection e1 with _ e1
       injection e1 with e1
       injection e1 with e1
       subst e1
       exact hC)
     replace HS := HS.pickO (fo' := [(cF kI A7 x.f1), (rF k149 (l.drop (j + 1)) S'), (cF kS149 (some ad) l0)]) (fun W h => ⟨h.1, h.2.1, h.2.2.2.1, trivial⟩)
     obtain ⟨ad6, rfl⟩ := row_open (HS.mu 1 rfl) (Nat.lt_of_le_of_lt (Nat.zero_le _) hjl)
     refine WC.seq fun _ hK15 => ?_
     refine WC.block ?_
     refine sr_ fun _ hK16 => ?_
     refine mv_ ?_
     refine v_ (ia_ underlying133 2 (Int.natCast_nonneg _) hlt2) ?_
     refine v_ (Run.loadS (cs := [vi x.f0, .slice A7 x.f1.length c7]) rfl rfl underlying149 rfl (by kernel_rfl) (fun o u hu => by
       rw [XLoad.add_add, Int.toNat_natCast]
       refine row_cell (HS.mu 1 rfl) ?_
       rw [List.getElem?_append_right (by omega), show j * 2 + o - P.length = o by omega]
       have ho : o < 2 := (List.getElem?_eq_some_iff.1 hu).1
       have e9 : (Value.int .i64 x.f0 :: Value.slice A7 x.f1.length c7 :: S') = [Value.int .i64 x.f0, Value.slice A7 x.f1.length c7] ++ S' := rfl
       rw [e9, List.getElem?_append_left (by exact ho)]
       exact hu)) ?_
     refine WL.alloc HS (v := .agg #[vi 0, sn]) (cs := #[vi 0, sn]) rfl rfl (by decide) rfl (by kernel_rfl) rfl (fun b w4 hb HS => ?_)
     refine as_ ?_
     refine WL.storeW HS 0 rfl rfl rfl rfl rfl rfl (one_cons rfl (one_cons rfl one_nil)) (by kernel_rfl) rfl (fun w5 HS => ?_)
     dsimp only [List.set] at HS
     refine dn_ hK16 ?_
     refine rg_ ?_
     refine mv_ ?_
     refine mv_ ?_
     refine v_ (fa_ underlying149) ?_
     refine v_ (lb_ (HS.mu 0 rfl) underlying22 rfl) ?_
     refine c_ func78 (slices_Clone_int_int.runs k A7 c7 x.f1 x.f1 _ (HS.getO 0 rfl) hle7 (by unfold slices_Clone_int_int.g; rw [if_pos hlx])) ?_
     rintro _ w6 ⟨v8, b8, rfl, hO_, hb_⟩
     replace HS := HS.got hb_ hO_
     clear hO_ hb_
     dsimp only [List.cons_append, List.nil_append] at HS
     obtain ⟨A8, c8, rfl, _⟩ := val_slice (HS.mu 0 rfl)
     refine ⟨_, rfl, ?_⟩
     refine v_ (ia_ underlying133 2 (Int.natCast_nonneg _) hlt2) ?_
     refine v_ (Run.fieldAddr rfl rfl underlying149 rfl (by kernel_rfl) (XLoad.add_add _ _ _)) ?_
     refine WL.putEl HS 3 rfl rfl rfl rfl rfl rfl [.slice A8 x.f1.length c8] rfl (one_cons rfl one_nil) (by kernel_rfl) (show (j : Int).toNat * 2 + 1 + 1 ≤ l.length * 2 from mul_room (Int.natCast_nonneg _) hlt2 2) (fun w7 I9 hI9 HS => ?_)
     dsimp only [List.set] at HS
     have hI : I9 = (P ++ [vi x.f0, .slice A8 x.f1.length c8]) ++ S' := by
       rw [hI9, show P ++ (Value.int .i64 x.f0 :: Value.slice A7 x.f1.length c7 :: S') = (P ++ [vi x.f0]) ++ ([.slice A7 x.f1.length c7] ++ S') by simp]
       exact (cut_mid (P := P ++ [vi x.f0]) (cs := [.slice A7 x.f1.length c7]) (S := S') (vs := [.slice A8 x.f1.length c8]) (by show (j : Int).toNat * 2 + 1 = _; rw [List.length_append, hP, Int.toNat_natCast]; rfl) rfl).trans (by simp)
     subst hI
     replace HS := HS.put0 (valM dq149 x [vi x.f0, .slice A8 x.f1.length c8] b8) (fun hP_ => foot_val (dq149_mk _ x hP_)) (fun h_ => h_) (fun _ h_ => h_)
     replace HS := St.forget HS 1 rfl
     dsimp only [List.eraseIdx] at HS
     replace HS := HS.elsSnoc rfl
     refine dn_ hK15 ?_
     refine rg_ ?_
     refine b_ bin_add64 ?_
     rw [wrap_succ hjl hl1]
     refine mv_ ?_
     refine WL.done ?_
     rw [← hx2] at HS
     exact wr_ k3 iq ⟨j + 1, _, S', _, by omega, by rw [List.length_append, hP]; simp; omega, rfl, HS.pickO (fun W h => h.2)⟩
   · refine wn_ (dF hlt2) (WC.exit (via_ hK11 ?_))
     obtain rfl : j = l.length := by omega
     have hS : S = [] := List.eq_nil_of_length_eq_zero (by have := (HS.getO 0 rfl : Reps _ _ _ _).1; rw [List.drop_length] at this; simpa using this)
     subst hS
     rw [List.take_length, List.append_nil] at HS
     replace HS := HS.front 1 rfl
     dsimp only [List.eraseIdx] at HS
     replace HS := HS.seal rfl rfl
     refine rg_ ?_
     refine mv_ ?_
     refine mv_ ?_
     refine WL.val rfl rfl (by decide) (Run.lit1 (z := (sn)) (vs := [.slice A6 l.length c6]) rfl rfl rfl underlying60 (by kernel_rfl) (ble_ rfl) (ble_ rfl)) ?_
     have HS1 := HS.below (below_alloc (Below.refl _ _) (.cells #[.slice A6 l.length c6] 133))
     refine WL.append HS1 2 rfl rfl rfl (by decide) rfl (sn) 24 underlying60 (by kernel_rfl) rfl (by decide) (by decide) rfl rfl [.slice A6 l.length c6] rfl (lit_news _ _ _) (one_cons rfl one_nil) (by omega) (i + 1) rfl (fun v13 w14 I15 hI16 HS => ?_)
     dsimp only [List.set] at HS
     clear HS1
     replace HS := HS.elsSnoc hI16
     rw [← htk] at HS
     refine ad_ hK8 ?_
     refine rg_ ?_
     refine b_ bin_add64 ?_
     rw [wrap_succ hil hn]
     refine mv_ ?_
     refine WL.done ?_
     exact wr_ k1 iq ⟨i + 1, v13, I15, _, by omega, rfl, HS.pickO (fun W h => h.2)⟩
 · refine wn_ (dF hlt) (WC.exit (via_ hK3 ?_))
   obtain rfl : i = l0.length := by omega
   rw [List.take_length] at HS
   replace HS := HS.front 1 rfl
   dsimp only [List.eraseIdx] at HS
   replace HS := HS.seal rfl rfl
   refine sr_ fun _ hK17 => ?_
   refine mv_ ?_
   refine ad_ hK17 ?_
   refine WC.ret ?_
   exact fin1 Try.f143 rfl rfl hR_ ⟨_, _, rfl, St.owns HS, HS.b⟩
def impl_cloneCell.g (k : Nat) (x0 : S62) : Option S62 := ((impl_cloneParts.g k x0.f0).bind fun t8 => ((impl_cloneParts.g k x0.f1).bind fun t15 => (some (⟨t8, t15⟩ : S62))))
theorem impl_cloneCell.runs (k : Nat) (x0 : S62) (A0_0 : Option Addr) (c0_0 : Nat) (A0_1 : Option Addr) (c0_1 : Nat) (r : S62) (w : World) (hr0_0 : kS149.C w A0_0 x0.f0.length x0.f0) (hc0_0 : x0.f0.length ≤ c0_0) (hr0_1 : kS149.C w A0_1 x0.f1.length x0.f1) (hc0_1 : x0.f1.length ≤ c0_1) (H : impl_cloneCell.g k x0 = some r) :
   Calls prog 108 #[.agg #[.slice A0_0 x0.f0.length c0_0, .slice A0_1 x0.f1.length c0_1]] w fun e w' => ∃ (v0_0_ : Value) (bl0_0_ : List Nat) (v0_1_ : Value) (bl0_1_ : List Nat), e = .returned (.agg #[v0_0_, v0_1_]) ∧ Owns w' w.heap.size [valM (Dk.slice 133 (Dk.slice 149 dq149)) r.f0 [v0_0_] bl0_0_, valM (Dk.slice 133 (Dk.slice 149 dq149)) r.f1 [v0_1_] bl0_1_] ∧ Below w.heap.size w w' := by
 unfold impl_cloneCell.g at H
 have HS : St (fun _ => True) w w [] [(cF kS149 A0_0 x0.f0), (cF kS149 A0_1 x0.f1)] [] := St.start (foot_cons (foot_C (Kd.heap_slice _ h149) hr0_0) (foot_cons (foot_C (Kd.heap_slice _ h149) hr0_1) foot_nil))
 refine cw_ (n := 10) func108 fun R_ hR_ => ?_
 refine sr_ fun _ hK1 => ?_
 refine bo_ HS (fun b2 w3 hb2 HS => ?_)
 refine WL.alloc HS (v := .agg #[sn, sn]) (cs := #[sn, sn]) rfl rfl (by decide) rfl (by kernel_rfl) rfl (fun b4 w5 hb4 HS => ?_)
 refine dn_ hK1 (WC.seq fun _ hK6 => ?_)
 refine WC.drawW HS [boxM b4 #[sn, sn] 62, boxM b2 #[.slice A0_0 x0.f0.length c0_0, .slice A0_1 x0.f1.length c0_1] 62] (fun _ HS => ⟨(HS.mu 0 rfl), (HS.mu 1 rfl), trivial⟩) [7] rfl rfl (fun w7 HS => ?_)
 refine df_ 0 underlying62 ?_
 refine df_ 3 underlying62 ?_
 refine dt_ 1 ⟨HS.nowO, HS.nowN, ⟨(HS.mu 0 rfl), (HS.mu 1 rfl), trivial⟩⟩ (fun w_ hw_ => Run.load rfl rfl underlying60 rfl (box_cell hw_.2.2.2.1 rfl)) ?_
 refine dt_ 4 ⟨HS.nowO, HS.nowN, ⟨(HS.mu 0 rfl), (HS.mu 1 rfl), trivial⟩⟩ (fun w_ hw_ => Run.load rfl rfl underlying60 rfl (box_cell hw_.2.2.2.1 rfl)) ?_
 obtain ⟨t8, ha9, H⟩ := bind_some H
 refine dc_ 2 (w_none rfl) func143 (impl_cloneParts.runs k A0_0 c0_0 x0.f0 t8 _ (HS.getO 0 rfl) hc0_0 ha9) ?_
 clear ha9
 rintro _ w10 ⟨v11, bl12, rfl, hO_, hb⟩
 replace HS := HS.got hb hO_
 dsimp only [List.cons_append, List.nil_append] at HS
 clear hO_
 obtain ⟨I13, bl14, HS⟩ := HS.unseal (sz := 1) rfl
 refine ⟨⟨HS.nowO, HS.nowN, ⟨(HS.mu 2 rfl), (HS.mu 3 rfl), trivial⟩⟩, _, rfl, ?_⟩
 clear hb
 obtain ⟨t15, ha16, H⟩ := bind_some H
 refine dc_ 5 (w_none rfl) func143 (impl_cloneParts.runs k A0_1 c0_1 x0.f1 t15 _ (HS.getO 1 rfl) hc0_1 ha16) ?_
 clear ha16
 rintro _ w17 ⟨v18, bl19, rfl, hO_, hb⟩
 replace HS := HS.got hb hO_
 dsimp only [List.cons_append, List.nil_append] at HS
 clear hO_
 obtain ⟨I20, bl21, HS⟩ := HS.unseal (sz := 1) rfl
 refine ⟨⟨HS.nowO, HS.nowN, ⟨(HS.mu 4 rfl), (HS.mu 5 rfl), trivial⟩⟩, _, rfl, ?_⟩
 clear hb
 obtain ⟨A22, c23, rfl⟩ := row_slice (HS.mu 2 rfl)
 obtain ⟨A24, c25, rfl⟩ := row_slice (HS.mu 0 rfl)
 refine db_ 6 [(0, (.slice A22 t8.length c23)), (1, (.slice A24 t15.length c25))] (cells := #[(.slice A22 t8.length c23), (.slice A24 t15.length c25)]) rfl rfl ⟨⟨rfl, rfl⟩, ⟨⟨rfl, rfl⟩, trivial⟩⟩ (by kernel_rfl) ?_
 refine WD.storeSL 7 HS 4 rfl rfl rfl rfl (oneL rfl) (by kernel_rfl) (ble_ rfl) (cs' := #[(.slice A22 t8.length c23), (.slice A24 t15.length c25)]) (by kernel_rfl) (fun w26 HS => ?_)
 dsimp only [List.set] at HS
 refine dd_ (via_ hK6 (WC.ret ?_))
 replace HS := HS.front 3 rfl
 dsimp only [List.eraseIdx] at HS
 replace HS := HS.front 3 rfl
 dsimp only [List.eraseIdx] at HS
 replace HS := HS.seal rfl rfl
 replace HS := HS.front 2 rfl
 dsimp only [List.eraseIdx] at HS
 replace HS := HS.front 2 rfl
 dsimp only [List.eraseIdx] at HS
 replace HS := HS.seal rfl rfl
 obtain rfl := os H
 exact fin1 Try.f108 rfl ⟨_, rfl, resv_box (HS.mu 2 rfl) underlying62 rfl (by kernel_rfl)⟩ hR_ ⟨_, _, _, _, rfl, (St.owns (St.front (St.front (St.forget (St.forget HS 3 rfl) 2 rfl) 0 rfl) 1 rfl)), HS.b⟩
def impl_cloneCells.b0 (l0 : List S62) (rec_ : (List S62) → Int → Option ((List S62) × Int)) (k22 : Nat) (xs9 : List S62) (i13 : Int) : Option ((List S62) × Int) := (if i13 < (l0.length : Int) then (if 0 ≤ i13 ∧ i13 < (l0.length : Int) then ((impl_cloneCell.g k22 (⟨(l0.getD i13.toNat o62).f0, (l0.getD i13.toNat o62).f1⟩ : S62)).bind fun t44 => (if (xs9.length) < 4294967296 then (rec_ (xs9 ++ [t44]) (wrap64 (i13 + 1))) else none)) else none) else (some (xs9, i13)))
def impl_cloneCells.l0 (l0 : List S62) : Nat → (List S62) → Int → Option ((List S62) × Int)
 | 0, _, _ => none
 | k + 1, xs9, i13 => impl_cloneCells.b0 l0 (impl_cloneCells.l0 l0 k) k xs9 i13
def impl_cloneCells.g (k : Nat) (l0 : List S62) : Option (List S62) := ((impl_cloneCells.l0 l0 k ([] : List S62) 0).bind (fun oc20 => (some oc20.1)))
theorem impl_cloneCells.runs (k : Nat) (A0 : Option Addr) (c0 : Nat) (l0 : List S62) (r : List S62) (w : World) (hr0 : k62.C w A0 l0.length l0) (hc0 : l0.length ≤ c0) (H : impl_cloneCells.g k l0 = some r) :
   Calls prog 107 #[.slice A0 l0.length c0] w fun e w' => ∃ (v0_ : Value) (bl0_ : List Nat), e = .returned (v0_) ∧ Owns w' w.heap.size [valM (Dk.slice 62 dq62) r [v0_] bl0_] ∧ Below w.heap.size w w' := by
 unfold impl_cloneCells.g at H
 have HS : St (fun _ => True) w w [] [(cF k62 A0 l0)] [] := St.start (foot_cons (foot_C h62 hr0) foot_nil)
 refine cw_ (n := 19) func107 fun R_ hR_ => ?_
 refine sr_ fun _ hK1 => ?_
 refine ad_ hK1 ?_
 refine sr_ fun _ hK2 => ?_
 refine ad_ hK2 ?_
 refine WC.seq fun K3 hK3 => ?_
 refine sr_ fun _ hK4 => ?_
 refine mv_ ?_
 refine ln_ underlying71 ?_
 refine mv_ ?_
 refine dn_ hK4 (WC.block ?_)
 replace HS := HS.rowNil 62 2
 replace HS := HS.els0 (dq62)
 obtain ⟨G5, hG6, oc7, H, Ho8⟩ := open_G H
 let J14 := fun (xs9 : List S62) v10 I11 bl12 (i13 : Int) (E_ : Env) (W_ : World) => E_ = [(3, v10), (6, .slice A0 l0.length c0), (7, vi (l0.length : Int)), (8, vi i13)] ∧ St (fun _ => True) w W_ [elsM dq62 xs9 I11 bl12, rowM w.heap.size 62 2 v10 xs9.length I11] [(cF k62 A0 l0)] []
 have X15 : ∀ E_ W_, (∃ xs9 v10 I11 bl12 i13, G5 (xs9, i13) = some r ∧ J14 xs9 v10 I11 bl12 i13 E_ W_) → ∀ a, Fits a 19 E_ → K3 a W_ := by
   rintro E_ w16 ⟨xs9, v10, I11, bl12, i13, H, rfl, HS⟩
   rw [hG6] at H
   (try dsimp only at H)
   refine hK3 _ _ ?_
   refine sr_ fun _ hK17 => ?_
   refine mv_ ?_
   refine ad_ hK17 ?_
   refine WC.ret ?_
   obtain ⟨A18, c19, rfl⟩ := row_slice (HS.mu 1 rfl)
   replace HS := HS.front 1 rfl
   dsimp only [List.eraseIdx] at HS
   replace HS := HS.seal rfl rfl
   obtain rfl := os H
   exact fin1 Try.f107 rfl rfl hR_ ⟨_, _, rfl, (St.owns HS), HS.b⟩
 clear hK3
 refine WC.loop (fun k_ E_ W_ => ∃ xs9 v10 I11 bl12 i13, (∃ o_, impl_cloneCells.l0 l0 k_ xs9 i13 = some o_ ∧ G5 o_ = some r) ∧ J14 xs9 v10 I11 bl12 i13 E_ W_) k ⟨([] : List S62), (sn), ([]), ([]), 0, ⟨_, H, Ho8⟩, rfl, HS⟩ (sb rfl) ?_
 rintro k_ E_ w21 ⟨xs9, v10, I11, bl12, i13, ⟨oc7, H, Ho8⟩, rfl, HS⟩
 rcases k_ with _ | k22
 · exact no_ H
 replace H : impl_cloneCells.b0 l0 (impl_cloneCells.l0 l0 k22) k22 xs9 i13 = some oc7 := H
 unfold impl_cloneCells.b0 at H
 refine sr_ fun _ hK23 => ?_
 refine b_ bin_lss ?_
 refine dn_ hK23 (WC.seq fun _ hK24 => ?_)
 rcases eti_ H with ⟨c25, H⟩ | ⟨c25, H⟩
 · refine wn_ (dF c25) (WC.exit ?_)
   obtain rfl := os H
   exact wv_ iq X15 ⟨xs9, v10, I11, bl12, i13, Ho8, rfl, HS⟩
 refine wy_ (dT c25) (WC.skip (via_ hK24 (WC.seq fun _ hK26 => ?_)))
 refine WC.block (sr_ fun _ hK27 => ?_)
 obtain ⟨⟨q28, q29⟩, H⟩ := if_some H
 obtain ⟨ad30, rfl⟩ := C_open (HS.getO 0 rfl) (by omega)
 refine v_ (ia_ underlying71 2 q28 q29) ?_
 obtain ⟨e31, el32, HS⟩ := HS.elO 0 rfl (by decide) o62 i13 q28 q29
 obtain ⟨A33, c34, hc35, le36, HS⟩ := HS.eO 0 rfl at62_0
 obtain ⟨A37, c38, hc39, le40, HS⟩ := HS.eO 1 rfl at62_1
 refine v_ (Run.loadS (cs := [.slice A33 ((l0.getD i13.toNat o62).f0.length) c34, .slice A37 ((l0.getD i13.toNat o62).f1.length) c38]) rfl rfl underlying62 rfl (by kernel_rfl) (cells_part (HS.getO 2 rfl).2 (part_cons hc35 (part_cons hc39 part_nil)))) ?_
 refine WL.alloc HS (v := .agg #[sn, sn]) (cs := #[sn, sn]) rfl rfl (by decide) rfl (by kernel_rfl) rfl (fun b41 w42 hb41 HS => ?_)
 refine WL.storeW HS 0 rfl rfl rfl rfl rfl rfl (oneL rfl) (by kernel_rfl) rfl (fun w43 HS => ?_)
 dsimp only [List.set] at HS
 refine dn_ hK27 (rg_ (mv_ ?_))
 refine v_ (ls_ (HS.mu 0 rfl) underlying62 part_all) ?_
 obtain ⟨t44, ha45, H⟩ := bind_some H
 refine c_ func108 (impl_cloneCell.runs k22 (⟨(l0.getD i13.toNat o62).f0, (l0.getD i13.toNat o62).f1⟩ : S62) A33 c34 A37 c38 t44 _ (HS.getO 1 rfl) le36 (HS.getO 0 rfl) le40 ha45) ?_
 clear ha45
 rintro _ w46 ⟨v47, bl48, v49, bl50, rfl, hO_, hb⟩
 replace HS := HS.got hb hO_
 dsimp only [List.cons_append, List.nil_append] at HS
 clear hO_
 obtain ⟨I51, bl52, HS⟩ := HS.unseal (sz := 1) rfl
 replace HS := HS.front 2 rfl
 dsimp only [List.eraseIdx] at HS
 obtain ⟨I53, bl54, HS⟩ := HS.unseal (sz := 1) rfl
 refine ⟨_, rfl, ?_⟩
 clear hb
 obtain ⟨A55, c56, rfl⟩ := row_slice (HS.mu 2 rfl)
 obtain ⟨A57, c58, rfl⟩ := row_slice (HS.mu 0 rfl)
 refine WL.val rfl rfl (by decide) (Run.lit1 (z := (.agg #[sn, sn])) (vs := [(.slice A55 t44.f0.length c56), (.slice A57 t44.f1.length c58)]) rfl rfl rfl underlying71 (by kernel_rfl) (ble_ rfl) (ble_ rfl)) ?_
 have HS1 := HS.below (below_alloc (Below.refl _ _) (.cells #[(.slice A55 t44.f0.length c56), (.slice A57 t44.f1.length c58)] 62))
 obtain ⟨q59, H⟩ := if_some H
 refine WL.append HS1 6 rfl rfl rfl (by decide) rfl (.agg #[sn, sn]) 48 underlying71 (by kernel_rfl) rfl (by decide) (by decide) rfl rfl [(.slice A55 t44.f0.length c56), (.slice A57 t44.f1.length c58)] rfl (lit_news _ _ _) (oneL rfl) (by omega) ((xs9 ++ [t44]).length) (by simp) (fun v60 w61 I62 hI63 HS => ?_)
 dsimp only [List.set] at HS
 clear HS1
 replace HS := HS.front 3 rfl
 dsimp only [List.eraseIdx] at HS
 replace HS := HS.front 3 rfl
 dsimp only [List.eraseIdx] at HS
 replace HS := HS.seal rfl rfl
 replace HS := HS.front 2 rfl
 dsimp only [List.eraseIdx] at HS
 replace HS := HS.front 2 rfl
 dsimp only [List.eraseIdx] at HS
 replace HS := HS.seal rfl rfl
 replace HS := HS.front 1 rfl
 dsimp only [List.eraseIdx] at HS
 replace HS := HS.both
 replace HS := HS.put0 (valM dq62 t44 ([(.slice A55 t44.f0.length c56), (.slice A57 t44.f1.length c58)]) ((((.slice A55 t44.f0.length c56) : Value).ownBlock.toList ++ bl52) ++ (((.slice A57 t44.f1.length c58) : Value).ownBlock.toList ++ bl54))) (fun hP_ => foot_val (dq62_mk _ t44 hP_.1 hP_.2)) (fun h_ => h_) (fun _ h_ => h_)
 replace HS := HS.front 2 rfl
 dsimp only [List.eraseIdx] at HS
 replace HS := HS.front 1 rfl
 dsimp only [List.eraseIdx] at HS
 replace HS := HS.elsSnoc hI63
 refine ad_ hK26 ?_
 refine rg_ (b_ bin_add64 ?_)
 refine mv_ ?_
 refine WL.done ?_
 exact wr_ k22 iq ⟨(xs9 ++ [t44]), v60, I62, (bl12 ++ ((((.slice A55 t44.f0.length c56) : Value).ownBlock.toList ++ bl52) ++ (((.slice A57 t44.f1.length c58) : Value).ownBlock.toList ++ bl54))), (wrap64 (i13 + 1)), ⟨_, H, Ho8⟩, rfl, (St.pk (St.forget HS 1 rfl) [3] [] rfl rfl)⟩
theorem laws_heldCellSS.leaf (A : Option Addr) (n c : Nat) (z : Int) (L : List Addr) (w : World) (h : XLeaf.RowLv w (.row (.both (.row (.row (.both .int (.row .int)))) (.row (.row (.both .int (.row .int)))))) A n L) (ht : XLeaf.ToldAt w L z) (h0 : 0 ≤ z) (h1 : z + (L.length : Int) ≤ 4611686018427387904) (r : Int) (hr0 : r = z + (L.length : Int)) :
   Calls prog 131 #[.slice A n c, vi z] w fun e w' => e = .returned (vi r) ∧ Below w.heap.size w w' := by
 obtain ⟨f, rfl, HJ⟩ := HeJ.start h ht h0 h1
 clear h h0 ht
 refine cw_ (n := 21) func131 fun R_ hR_ => ?_
 refine WC.seq fun _ hKa => ?_
 refine rg_ ?_
 refine as_ ?_
 refine WL.done ?_
 refine via_ hKa ?_
 refine WC.seq fun _ hKb => ?_
 refine WC.seq fun _ hKc => ?_
 refine rg_ ?_
 refine as_ ?_
 refine WL.done ?_
 refine via_ hKc ?_
 refine WC.block ?_
 refine WC.loop (fun k_ E_ W_ => ∃ (j : Nat) (y : Int), k_ + j = n ∧ E_ = [(0, .slice A n c), (1, vi y), (5, vi (j : Int))] ∧ HeJ w W_ z (.row (.both (.row (.row (.both .int (.row .int)))) (.row (.row (.both .int (.row .int)))))) A n f j y) n ⟨0, z, rfl, rfl, HJ⟩ (sb rfl) ?_
 rintro k_ E_ W ⟨j, y, hk, rfl, HJ⟩
 refine WC.seq fun _ hKd => ?_
 refine WC.seq fun _ hKe => ?_
 refine rg_ ?_
 refine mv_ ?_
 refine mv_ ?_
 refine ln_ underlying56 ?_
 refine b_ bin_lss ?_
 refine WL.done ?_
 refine via_ hKe ?_
 by_cases hlt : (j : Int) < (n : Int)
 · refine wy_ (dT hlt) (WC.skip (via_ hKd ?_))
   obtain ⟨k1, rfl⟩ : ∃ k1, k_ = k1 + 1 := ⟨k_ - 1, by omega⟩
   obtain ⟨g, Ls, rfl, hj1, he, HI⟩ := HJ.round (by omega)
   refine WC.seq fun _ hK1 => ?_
   refine WC.block ?_
   refine WC.seq fun _ hK2 => ?_
   refine rg_ ?_
   refine mv_ ?_
   refine mv_ ?_
   refine v_ (Run.eqv (ptr_at g j 1) (ia_ underlying56 1 (Int.natCast_nonneg _) hlt)) ?_
   have h0_ := HI.y0
   obtain ⟨L3, A4, n5, c6, y7, hc8, hR9, hT13, hB10, hy11, hI12⟩ := HI.row (i := 0) rfl
   refine v_ (Run.load rfl rfl underlying71 rfl hc8) ?_
   refine mv_ ?_
   refine c_ func68 (laws_heldCellS.leaf A4 n5 c6 y L3 _ hR9 hT13 h0_ hB10 y7 hy11) ?_
   rintro _ W14 ⟨rfl, hm_⟩
   replace HI := hI12 W14 hm_
   clear h0_ hm_ hI12 hR9 hB10 hy11
   refine ⟨_, rfl, ?_⟩
   refine as_ ?_
   refine WL.done ?_
   refine via_ hK2 ?_
   refine WC.seq fun _ hK15 => ?_
   refine rg_ ?_
   refine mv_ ?_
   refine b_ bin_lss ?_
   refine WL.done ?_
   refine via_ hK15 ?_
   refine wn_ (dF (show ¬ (y7 < 0) from Int.not_lt.mpr HI.y0)) ?_
   refine WC.skip ?_
   refine via_ hK1 ?_
   refine rg_ ?_
   refine mv_ ?_
   refine b_ bin_add64 ?_
   rw [hj1]
   refine as_ ?_
   refine WL.done ?_
   exact wr_ k1 iq ⟨j + 1, _, by omega, rfl, HJ.next he HI rfl⟩
 · refine wn_ (dF hlt) (WC.exit (via_ hKb ?_))
   obtain rfl : j = n := by omega
   obtain rfl : y = r := HJ.y.trans hr0.symm
   refine WC.seq fun _ hKf => ?_
   refine rg_ ?_
   refine mv_ ?_
   refine as_ ?_
   refine WL.done ?_
   refine via_ hKf ?_
   refine WC.ret ?_
   exact fin1 Try.f131 rfl rfl hR_ ⟨rfl, HJ.m⟩
def spec_l15Copy.b0 (x0 : S58) (rec_ : Int → (List (List S62)) → Option (Int × (List (List S62)))) (k44 : Nat) (i30 : Int) (xs31 : List (List S62)) : Option (Int × (List (List S62))) := (if i30 < (x0.f1.length : Int) then (if 0 ≤ i30 ∧ i30 < (x0.f1.length : Int) then ((spec_l14CopyCells.g k44 (x0.f1.getD i30.toNat [])).bind fun t58 => (if (xs31.length) < 4294967296 then (rec_ (wrap64 (i30 + 1)) (xs31 ++ [t58])) else none)) else none) else (some (i30, xs31)))
def spec_l15Copy.l0 (x0 : S58) : Nat → Int → (List (List S62)) → Option (Int × (List (List S62)))
 | 0, _, _ => none
 | k + 1, i30, xs31 => spec_l15Copy.b0 x0 (spec_l15Copy.l0 x0 k) k i30 xs31
def spec_l15Copy.g (k : Nat) (x0 : S58) : Option S58 := (if (0) + (x0.f0.length) < 4294967296 then ((spec_l15Copy.l0 x0 k 0 ([] : List (List S62))).bind (fun oc42 => (some (⟨(([] : List Int) ++ x0.f0), oc42.2⟩ : S58)))) else none)
theorem spec_l15Copy.runs (k : Nat) (x0 : S58) (A0_0 : Option Addr) (c0_0 : Nat) (A0_1 : Option Addr) (c0_1 : Nat) (r : S58) (w : World) (hr0_0 : kI.C w A0_0 x0.f0.length x0.f0) (hc0_0 : x0.f0.length ≤ c0_0) (hr0_1 : kS62.C w A0_1 x0.f1.length x0.f1) (hc0_1 : x0.f1.length ≤ c0_1) (H : spec_l15Copy.g k x0 = some r) :
   Calls prog 111 #[.agg #[.slice A0_0 x0.f0.length c0_0, .slice A0_1 x0.f1.length c0_1]] w fun e w' => ∃ (v0_0_ : Value) (bl0_0_ : List Nat) (v0_1_ : Value) (bl0_1_ : List Nat), e = .returned (.agg #[v0_0_, v0_1_]) ∧ Owns w' w.heap.size [valM (Dk.slice 3 (Dk.int .i64)) r.f0 [v0_0_] bl0_0_, valM (Dk.slice 71 (Dk.slice 62 dq62)) r.f1 [v0_1_] bl0_1_] ∧ Below w.heap.size w w' := by
 unfold spec_l15Copy.g at H
 have HS : St (fun _ => True) w w [] [(cF kI A0_0 x0.f0), (cF kS62 A0_1 x0.f1)] [] := St.start (foot_cons (foot_C (Kd.heap_int _) hr0_0) (foot_cons (foot_C (Kd.heap_slice _ h62) hr0_1) foot_nil))
 refine cw_ (n := 29) func111 fun R_ hR_ => ?_
 refine sr_ fun _ hK1 => ?_
 refine bo_ HS (fun b2 w3 hb2 HS => ?_)
 refine WL.alloc HS (v := .agg #[sn, sn]) (cs := #[sn, sn]) rfl rfl (by decide) rfl (by kernel_rfl) rfl (fun b4 w5 hb4 HS => ?_)
 refine dn_ hK1 (sr_ fun _ hK6 => ?_)
 refine WL.lit0 HS rfl rfl (by decide) rfl underlying22 (sz := 1) (by kernel_rfl) (fun v7 w8 HS => ?_)
 replace HS := HS.deriveN (p := (rF kI ([] : List Int) [])) (fun _ _ => Reps.none _ _)
 refine v_ (fa_ underlying58) ?_
 refine v_ (lb_ (HS.mu 2 rfl) underlying22 rfl) ?_
 obtain ⟨q9, H⟩ := if_some H
 obtain ⟨L10, hl11, h12, hF13, hc14⟩ := foot_all (HS.footO 0 rfl) (by decide) rfl
 replace HS := HS.addN (p := (rF kI x0.f0 L10)) (fun W_ _ => hF13.now)
 refine WL.appendL HS 0 rfl rfl rfl (by decide) rfl (vi 0) 8 underlying22 (by kernel_rfl) rfl (by decide) (by decide) rfl rfl L10 hl11 hc14 h12 (by omega) ((([] : List Int) ++ x0.f0).length) (by simp <;> omega) (fun v15 w16 I17 hI18 HS => ?_)
 dsimp only [List.set] at HS
 replace HS := HS.deriveN (p := (rF kI (([] : List Int) ++ x0.f0) I17)) (fun W_ hN_ => reps_more hI18 hN_.2.1 hN_.1)
 obtain ⟨A19, c20, rfl⟩ := row_slice (HS.mu 0 rfl)
 refine v_ (Run.build (cells := #[(.slice A19 ((([] : List Int) ++ x0.f0).length) c20), sn]) rfl [(0, (.slice A19 ((([] : List Int) ++ x0.f0).length) c20))] ⟨⟨rfl, rfl⟩, trivial⟩ (by kernel_rfl)) ?_
 refine WL.alloc HS (v := .agg #[sn, sn]) (cs := #[sn, sn]) rfl rfl (by decide) rfl (by kernel_rfl) rfl (fun b21 w22 hb21 HS => ?_)
 refine WL.storeW HS 0 rfl rfl rfl rfl rfl rfl (oneL rfl) (by kernel_rfl) rfl (fun w23 HS => ?_)
 dsimp only [List.set] at HS
 refine dn_ hK6 (WC.seq fun K24 hK24 => ?_)
 refine sr_ fun _ hK25 => ?_
 refine ad_ hK25 ?_
 refine WC.block ?_
 replace HS := HS.rowNil 71 1
 replace HS := HS.els0 (Dk.slice 62 dq62)
 obtain ⟨G26, hG27, oc28, H, Ho29⟩ := open_G H
 let J35 := fun (i30 : Int) (xs31 : List (List S62)) v32 I33 bl34 (E_ : Env) (W_ : World) => E_ = [(1, .pointer (some ⟨b2, 0, none⟩)), (2, .pointer (some ⟨b4, 0, none⟩)), (3, .pointer (some ⟨b21, 0, none⟩)), (4, vi i30)] ∧ St (fun _ => True) w W_ [elsM (Dk.slice 62 dq62) xs31 I33 bl34, rowM w.heap.size 71 1 v32 xs31.length I33, boxM b21 #[(.slice A19 ((([] : List Int) ++ x0.f0).length) c20), v32] 58, rowM w.heap.size 3 1 (.slice A19 ((([] : List Int) ++ x0.f0).length) c20) ((([] : List Int) ++ x0.f0).length) I17, boxM b4 #[sn, sn] 58, boxM b2 #[.slice A0_0 x0.f0.length c0_0, .slice A0_1 x0.f1.length c0_1] 58] [(cF kI A0_0 x0.f0), (cF kS62 A0_1 x0.f1)] [(rF kI (([] : List Int) ++ x0.f0) I17)]
 have X36 : ∀ E_ W_, (∃ i30 xs31 v32 I33 bl34, G26 (i30, xs31) = some r ∧ J35 i30 xs31 v32 I33 bl34 E_ W_) → ∀ a, Fits a 29 E_ → K24 a W_ := by
   rintro E_ w37 ⟨i30, xs31, v32, I33, bl34, H, rfl, HS⟩
   rw [hG27] at H
   (try dsimp only at H)
   refine hK24 _ _ ?_
   refine sr_ fun _ hK38 => ?_
   obtain ⟨A39, c40, rfl⟩ := row_slice (HS.mu 1 rfl)
   refine v_ (ls_ (HS.mu 2 rfl) underlying58 part_all) ?_
   refine WL.storeW HS 4 rfl rfl rfl rfl rfl rfl (oneL rfl) (by kernel_rfl) rfl (fun w41 HS => ?_)
   dsimp only [List.set] at HS
   refine dn_ hK38 (WC.ret ?_)
   replace HS := HS.elsF (xs := (([] : List Int) ++ x0.f0)) (inner := I17) (Dk.int .i64) (fun _ _ _ h_ => ⟨h_, rfl⟩) (fun _ => (HS.getN 0 rfl))
   replace HS := HS.front 4 rfl
   dsimp only [List.eraseIdx] at HS
   replace HS := HS.seal rfl rfl
   replace HS := HS.front 1 rfl
   dsimp only [List.eraseIdx] at HS
   replace HS := HS.front 2 rfl
   dsimp only [List.eraseIdx] at HS
   replace HS := HS.seal rfl rfl
   obtain rfl := os H
   exact fin1 Try.f111 rfl ⟨_, rfl, resv_box (HS.mu 3 rfl) underlying58 rfl (by kernel_rfl)⟩ hR_ ⟨_, _, _, _, rfl, (St.owns (St.front (St.front (St.forget (St.forget (St.forget HS 4 rfl) 3 rfl) 2 rfl) 0 rfl) 1 rfl)), HS.b⟩
 clear hK24
 refine WC.loop (fun k_ E_ W_ => ∃ i30 xs31 v32 I33 bl34, (∃ o_, spec_l15Copy.l0 x0 k_ i30 xs31 = some o_ ∧ G26 o_ = some r) ∧ J35 i30 xs31 v32 I33 bl34 E_ W_) k ⟨0, ([] : List (List S62)), (sn), ([]), ([]), ⟨_, H, Ho29⟩, rfl, (St.pk HS [0, 1] [0] rfl rfl)⟩ (sb rfl) ?_
 rintro k_ E_ w43 ⟨i30, xs31, v32, I33, bl34, ⟨oc28, H, Ho29⟩, rfl, HS⟩
 rcases k_ with _ | k44
 · exact no_ H
 replace H : spec_l15Copy.b0 x0 (spec_l15Copy.l0 x0 k44) k44 i30 xs31 = some oc28 := H
 unfold spec_l15Copy.b0 at H
 refine WC.seq fun _ hK45 => ?_
 refine sr_ fun _ hK46 => ?_
 refine mv_ ?_
 refine v_ (fa_ underlying58) ?_
 refine v_ (lb_ (HS.mu 5 rfl) underlying56 rfl) ?_
 refine ln_ underlying56 ?_
 refine b_ bin_lss ?_
 refine dn_ hK46 ?_
 rcases eti_ H with ⟨c47, H⟩ | ⟨c47, H⟩
 · refine wn_ (dF c47) (WC.exit ?_)
   obtain rfl := os H
   exact wv_ iq X36 ⟨i30, xs31, v32, I33, bl34, Ho29, rfl, HS⟩
 refine wy_ (dT c47) (WC.skip (via_ hK45 (WC.seq fun _ hK48 => ?_)))
 refine WC.block (WC.drawW HS [boxM b21 #[(.slice A19 ((([] : List Int) ++ x0.f0).length) c20), v32] 58, boxM b4 #[sn, sn] 58, boxM b2 #[.slice A0_0 x0.f0.length c0_0, .slice A0_1 x0.f1.length c0_1] 58] (fun _ HS => ⟨(HS.mu 2 rfl), (HS.mu 4 rfl), (HS.mu 5 rfl), trivial⟩) [11] rfl rfl (fun w49 HS => ?_))
 refine df_ 0 underlying58 ?_
 refine df_ 2 underlying58 ?_
 refine dm_ 4 ?_
 obtain ⟨A50, c51, rfl⟩ := row_slice (HS.mu 1 rfl)
 refine dt_ 1 ⟨HS.nowO, HS.nowN, ⟨(HS.mu 2 rfl), (HS.mu 4 rfl), (HS.mu 5 rfl), trivial⟩⟩ (fun w_ hw_ => Run.load rfl rfl underlying56 rfl (box_cell hw_.2.2.1 rfl)) ?_
 refine dt_ 3 ⟨HS.nowO, HS.nowN, ⟨(HS.mu 2 rfl), (HS.mu 4 rfl), (HS.mu 5 rfl), trivial⟩⟩ (fun w_ hw_ => Run.load rfl rfl underlying56 rfl (box_cell hw_.2.2.2.2.1 rfl)) ?_
 obtain ⟨⟨q52, q53⟩, H⟩ := if_some H
 obtain ⟨ad54, rfl⟩ := C_open (HS.getO 1 rfl) (by omega)
 refine di_ 5 underlying56 1 q52 q53 ?_
 obtain ⟨A55, c56, le57, HS⟩ := HS.slO 1 rfl i30 q52 q53
 refine dv_ 6 (w_none rfl) (Run.load rfl rfl underlying71 rfl (HS.getO 1 rfl)) ⟨HS.nowO.2.2, HS.nowN, ⟨(HS.mu 2 rfl), (HS.mu 4 rfl), (HS.mu 5 rfl), trivial⟩⟩ ?_
 obtain ⟨t58, ha59, H⟩ := bind_some H
 refine dc_ 7 (w_none rfl) func113 (spec_l14CopyCells.runs k44 A55 c56 (x0.f1.getD i30.toNat []) t58 _ (HS.getO 0 rfl) le57 ha59) ?_
 clear ha59
 rintro _ w60 ⟨v61, bl62, rfl, hO_, hb⟩
 replace HS := HS.got hb hO_
 dsimp only [List.cons_append, List.nil_append] at HS
 clear hO_
 obtain ⟨I63, bl64, HS⟩ := HS.unseal (sz := 2) rfl
 refine ⟨⟨HS.nowO.2.2, HS.nowN, ⟨(HS.mu 4 rfl), (HS.mu 6 rfl), (HS.mu 7 rfl), trivial⟩⟩, _, rfl, ?_⟩
 clear hb
 obtain ⟨A65, c66, rfl⟩ := row_slice (HS.mu 0 rfl)
 have HS1 := HS.below (below_alloc (Below.refl _ _) (.cells #[(.slice A65 t58.length c66)] 71))
 refine dv_ 8 (w_none rfl) (Run.lit1 (z := (sn)) (vs := [(.slice A65 t58.length c66)]) rfl rfl rfl underlying56 (by kernel_rfl) (ble_ rfl) (ble_ rfl)) ⟨HS1.nowO.2.2, HS1.nowN, ⟨(HS1.mu 4 rfl), (HS1.mu 6 rfl), (HS1.mu 7 rfl), trivial⟩⟩ ?_
 obtain ⟨q67, H⟩ := if_some H
 refine WD.append 9 (w_none rfl) HS1 3 rfl rfl (sn) 24 underlying56 (by kernel_rfl) rfl (by decide) (by decide) rfl rfl [(.slice A65 t58.length c66)] rfl (lit_news _ _ _) (oneL rfl) (by omega) ((xs31 ++ [t58]).length) (by simp) (fun v68 w69 I70 hI71 HS => ?_)
 dsimp only [List.set] at HS
 clear HS1
 replace HS := HS.front 1 rfl
 dsimp only [List.eraseIdx] at HS
 replace HS := HS.front 1 rfl
 dsimp only [List.eraseIdx] at HS
 replace HS := HS.seal rfl rfl
 replace HS := HS.front 1 rfl
 dsimp only [List.eraseIdx] at HS
 replace HS := HS.front 1 rfl
 dsimp only [List.eraseIdx] at HS
 replace HS := HS.elsSnoc hI71
 refine ⟨⟨HS.nowO.2.2, HS.nowN, ⟨(HS.mu 2 rfl), (HS.mu 4 rfl), (HS.mu 5 rfl), trivial⟩⟩, ?_⟩
 refine df_ 10 underlying58 ?_
 obtain ⟨A73, c74, rfl⟩ := row_slice (HS.mu 1 rfl)
 refine WD.storeL 11 HS 2 rfl rfl rfl rfl rfl (by kernel_rfl) (ble_ rfl) (cs' := #[(.slice A19 ((([] : List Int) ++ x0.f0).length) c20), (.slice A73 ((xs31 ++ [t58]).length) c74)]) (by kernel_rfl) (fun w72 HS => ?_)
 dsimp only [List.set] at HS
 refine dd_ (via_ hK48 (rg_ (mv_ ?_)))
 refine b_ bin_add64 ?_
 refine as_ ?_
 refine WL.done ?_
 exact wr_ k44 iq ⟨(wrap64 (i30 + 1)), (xs31 ++ [t58]), (.slice A73 ((xs31 ++ [t58]).length) c74), I70, (bl34 ++ (((.slice A65 t58.length c66) : Value).ownBlock.toList ++ bl64)), ⟨_, H, Ho29⟩, rfl, (St.pk HS [2, 3] [0] rfl rfl)⟩
def spec_l15CopyTable.g (k : Nat) (x0 : S67) : Option S67 := (if (0) + (x0.f0.length) < 4294967296 then (some (⟨(([] : List Int) ++ x0.f0), x0.f1⟩ : S67)) else none)
theorem spec_l15CopyTable.runs (k : Nat) (x0 : S67) (A0_0 : Option Addr) (c0_0 : Nat) (r : S67) (w : World) (hr0_0 : kI.C w A0_0 x0.f0.length x0.f0) (hc0_0 : x0.f0.length ≤ c0_0) (H : spec_l15CopyTable.g k x0 = some r) :
   Calls prog 112 #[.agg #[.slice A0_0 x0.f0.length c0_0, vi x0.f1]] w fun e w' => ∃ (v0_0_ : Value) (bl0_0_ : List Nat), e = .returned (.agg #[v0_0_, vi r.f1]) ∧ Owns w' w.heap.size [valM (Dk.slice 3 (Dk.int .i64)) r.f0 [v0_0_] bl0_0_] ∧ Below w.heap.size w w' := by
 unfold spec_l15CopyTable.g at H
 have HS : St (fun _ => True) w w [] [(cF kI A0_0 x0.f0)] [] := St.start (foot_cons (foot_C (Kd.heap_int _) hr0_0) foot_nil)
 refine cw_ (n := 10) func112 fun R_ hR_ => ?_
 refine sr_ fun _ hK1 => ?_
 refine bo_ HS (fun b2 w3 hb2 HS => ?_)
 refine WL.alloc HS (v := .agg #[sn, vi 0]) (cs := #[sn, vi 0]) rfl rfl (by decide) rfl (by kernel_rfl) rfl (fun b4 w5 hb4 HS => ?_)
 refine dn_ hK1 (WC.seq fun _ hK6 => ?_)
 refine WC.drawW HS [boxM b4 #[sn, vi 0] 67, boxM b2 #[.slice A0_0 x0.f0.length c0_0, vi x0.f1] 67] (fun _ HS => ⟨(HS.mu 0 rfl), (HS.mu 1 rfl), trivial⟩) [7] rfl rfl (fun w7 HS => ?_)
 refine df_ 1 underlying67 ?_
 refine df_ 4 underlying67 ?_
 refine dt_ 2 ⟨HS.nowO, HS.nowN, ⟨(HS.mu 0 rfl), (HS.mu 1 rfl), trivial⟩⟩ (fun w_ hw_ => Run.load rfl rfl underlying22 rfl (box_cell hw_.2.2.2.1 rfl)) ?_
 refine dt_ 5 ⟨HS.nowO, HS.nowN, ⟨(HS.mu 0 rfl), (HS.mu 1 rfl), trivial⟩⟩ (fun w_ hw_ => Run.load rfl rfl underlying3 rfl (box_cell hw_.2.2.2.1 rfl)) ?_
 refine WD.lit0 0 (w_none rfl) HS rfl underlying22 (sz := 1) (by kernel_rfl) (fun v8 w9 HS => ?_)
 replace HS := HS.deriveN (p := (rF kI ([] : List Int) [])) (fun _ _ => Reps.none _ _)
 refine ⟨⟨HS.nowO, HS.nowN.2, ⟨(HS.mu 1 rfl), (HS.mu 2 rfl), trivial⟩⟩, ?_⟩
 obtain ⟨q10, H⟩ := if_some H
 obtain ⟨L11, hl12, h13, hF14, hc15⟩ := foot_all (HS.footO 0 rfl) (by decide) rfl
 replace HS := HS.addN (p := (rF kI x0.f0 L11)) (fun W_ _ => hF14.now)
 refine WD.appendL 3 (w_none rfl) HS 0 rfl rfl (vi 0) 8 underlying22 (by kernel_rfl) rfl (by decide) (by decide) rfl rfl L11 hl12 hc15 h13 (by omega) ((([] : List Int) ++ x0.f0).length) (by simp <;> omega) (fun v16 w17 I18 hI19 HS => ?_)
 dsimp only [List.set] at HS
 replace HS := HS.deriveN (p := (rF kI (([] : List Int) ++ x0.f0) I18)) (fun W_ hN_ => reps_more hI19 hN_.2.1 hN_.1)
 refine ⟨⟨HS.nowO, HS.nowN.2.2.2, ⟨(HS.mu 1 rfl), (HS.mu 2 rfl), trivial⟩⟩, ?_⟩
 obtain ⟨A20, c21, rfl⟩ := row_slice (HS.mu 0 rfl)
 refine db_ 6 [(0, (.slice A20 ((([] : List Int) ++ x0.f0).length) c21)), (1, vi x0.f1)] (cells := #[(.slice A20 ((([] : List Int) ++ x0.f0).length) c21), vi x0.f1]) rfl rfl ⟨⟨rfl, rfl⟩, ⟨⟨rfl, rfl⟩, trivial⟩⟩ (by kernel_rfl) ?_
 refine WD.storeSL 7 HS 1 rfl rfl rfl rfl (oneL rfl) (by kernel_rfl) (ble_ rfl) (cs' := #[(.slice A20 ((([] : List Int) ++ x0.f0).length) c21), vi x0.f1]) (by kernel_rfl) (fun w22 HS => ?_)
 dsimp only [List.set] at HS
 refine dd_ (via_ hK6 (WC.ret ?_))
 replace HS := HS.elsF (xs := (([] : List Int) ++ x0.f0)) (inner := I18) (Dk.int .i64) (fun _ _ _ h_ => ⟨h_, rfl⟩) (fun _ => (HS.getN 0 rfl))
 replace HS := HS.front 1 rfl
 dsimp only [List.eraseIdx] at HS
 replace HS := HS.seal rfl rfl
 obtain rfl := os H
 exact fin1 Try.f112 rfl ⟨_, rfl, resv_box (HS.mu 1 rfl) underlying67 rfl (by kernel_rfl)⟩ hR_ ⟨_, _, rfl, (St.owns (St.forget (St.forget HS 2 rfl) 1 rfl)), HS.b⟩
def spec_TakePage.b0 (l0 : List Int) (rec_ : Int → (List Int) → Option (((List Int) × Int × Bool) ⊕ (Int × (List Int)))) (k35 : Nat) (i21 : Int) (xs22 : List Int) : Option (((List Int) × Int × Bool) ⊕ (Int × (List Int))) := (if i21 < (l0.length : Int) then ((spec_PoolOk.g k35 l0).bind fun t39 => (if t39 = true then (if 0 ≤ i21 ∧ i21 < (l0.length : Int) then (if (l0.getD i21.toNat 0) = 0 then (if 0 ≤ i21 ∧ i21 < ((xs22.length : Nat) : Int) then (some (Sum.inl ((xs22.set i21.toNat 1), i21, true))) else none) else (rec_ (wrap64 (i21 + 1)) xs22)) else none) else (some (Sum.inr (i21, xs22))))) else (some (Sum.inr (i21, xs22))))
def spec_TakePage.l0 (l0 : List Int) : Nat → Int → (List Int) → Option (((List Int) × Int × Bool) ⊕ (Int × (List Int)))
 | 0, _, _ => none
 | k + 1, i21, xs22 => spec_TakePage.b0 l0 (spec_TakePage.l0 l0 k) k i21 xs22
def spec_TakePage.g (k : Nat) (l0 : List Int) : Option ((List Int) × Int × Bool) := (if (0) + (l0.length) < 4294967296 then ((spec_TakePage.l0 l0 k 0 (([] : List Int) ++ l0)).bind (fun oc33 => match oc33 with | .inl r_ => some r_ | .inr ⟨i21, xs22⟩ => (some (([] : List Int), 0, false)))) else none)
theorem spec_TakePage.runs (k : Nat) (A0 : Option Addr) (c0 : Nat) (l0 : List Int) (r1 : List Int) (r2 : Int) (r3 : Bool) (w : World) (hr0 : kI.C w A0 l0.length l0) (hc0 : l0.length ≤ c0) (H : spec_TakePage.g k l0 = some (r1, r2, r3)) :
   Calls prog 115 #[.slice A0 l0.length c0] w fun e w' => ∃ (v0_ : Value) (bl0_ : List Nat), e = .returned (.tuple #[v0_, vi r2, .bool r3]) ∧ Owns w' w.heap.size [valM (Dk.slice 3 (Dk.int .i64)) r1 [v0_] bl0_] ∧ Below w.heap.size w w' := by
 unfold spec_TakePage.g at H
 have HS : St (fun _ => True) w w [] [(cF kI A0 l0)] [] := St.start (foot_cons (foot_C (Kd.heap_int _) hr0) foot_nil)
 refine cw_ (n := 31) func115 fun R_ hR_ => ?_
 refine sr_ fun _ hK1 => ?_
 refine fast_ ?_
 refine via_ hK1 (sr_ fun _ hK2 => ?_)
 refine WL.lit0 HS rfl rfl (by decide) rfl underlying22 (sz := 1) (by kernel_rfl) (fun v3 w4 HS => ?_)
 replace HS := HS.deriveN (p := (rF kI ([] : List Int) [])) (fun _ _ => Reps.none _ _)
 refine mv_ ?_
 obtain ⟨q5, H⟩ := if_some H
 obtain ⟨L6, hl7, h8, hF9, hc10⟩ := foot_all (HS.footO 0 rfl) (by decide) rfl
 replace HS := HS.addN (p := (rF kI l0 L6)) (fun W_ _ => hF9.now)
 refine WL.appendL HS 0 rfl rfl rfl (by decide) rfl (vi 0) 8 underlying22 (by kernel_rfl) rfl (by decide) (by decide) rfl rfl L6 hl7 hc10 h8 (by omega) ((([] : List Int) ++ l0).length) (by simp <;> omega) (fun v11 w12 I13 hI14 HS => ?_)
 dsimp only [List.set] at HS
 replace HS := HS.deriveN (p := (rF kI (([] : List Int) ++ l0) I13)) (fun W_ hN_ => reps_more hI14 hN_.2.1 hN_.1)
 refine ad_ hK2 ?_
 refine WC.seq fun K15 hK15 => ?_
 refine sr_ fun _ hK16 => ?_
 refine ad_ hK16 ?_
 refine WC.block ?_
 obtain ⟨G17, hG18, oc19, H, Ho20⟩ := open_G H
 let J25 := fun (i21 : Int) (xs22 : List Int) v23 I24 (E_ : Env) (W_ : World) => E_ = [(0, .slice A0 l0.length c0), (5, v23), (6, vi i21)] ∧ St (fun _ => True) w W_ [rowM w.heap.size 3 1 v23 xs22.length I24] [(cF kI A0 l0)] [(rF kI xs22 I24)]
 have X26 : ∀ E_ W_, (∃ i21 xs22 v23 I24, G17 (Sum.inr (i21, xs22)) = some (r1, r2, r3) ∧ J25 i21 xs22 v23 I24 E_ W_) → ∀ a, Fits a 31 E_ → K15 a W_ := by
   rintro E_ w27 ⟨i21, xs22, v23, I24, H, rfl, HS⟩
   rw [hG18] at H
   (try dsimp only at H)
   refine hK15 _ _ ?_
   refine sr_ fun _ hK28 => ?_
   refine WL.lit0 HS rfl rfl (by decide) rfl underlying22 (sz := 1) (by kernel_rfl) (fun v29 w30 HS => ?_)
   replace HS := HS.deriveN (p := (rF kI ([] : List Int) [])) (fun _ _ => Reps.none _ _)
   refine fast_ ?_
   refine via_ hK28 (WC.ret ?_)
   obtain ⟨A31, c32, rfl⟩ := row_slice (HS.mu 0 rfl)
   replace HS := HS.elsF (xs := ([] : List Int)) (inner := []) (Dk.int .i64) (fun _ _ _ h_ => ⟨h_, rfl⟩) (fun _ => (HS.getN 0 rfl))
   replace HS := HS.front 1 rfl
   dsimp only [List.eraseIdx] at HS
   replace HS := HS.seal rfl (by simp)
   obtain ⟨rfl, rfl, rfl⟩ := (by have h_ := os H; simp only [Prod.mk.injEq] at h_; exact h_)
   exact fin3 Try.f115 rfl rfl rfl rfl hR_ ⟨_, _, rfl, (St.owns (St.forget HS 1 rfl)), HS.b⟩
 clear hK15
 refine WC.loop (fun k_ E_ W_ => ∃ i21 xs22 v23 I24, (∃ o_, spec_TakePage.l0 l0 k_ i21 xs22 = some o_ ∧ G17 o_ = some (r1, r2, r3)) ∧ J25 i21 xs22 v23 I24 E_ W_) k ⟨0, (([] : List Int) ++ l0), v11, I13, ⟨_, H, Ho20⟩, rfl, (St.pk HS [0] [0] rfl rfl)⟩ (sb rfl) ?_
 rintro k_ E_ w34 ⟨i21, xs22, v23, I24, ⟨oc19, H, Ho20⟩, rfl, HS⟩
 rcases k_ with _ | k35
 · exact no_ H
 replace H : spec_TakePage.b0 l0 (spec_TakePage.l0 l0 k35) k35 i21 xs22 = some oc19 := H
 unfold spec_TakePage.b0 at H
 refine WC.seq fun _ hK36 => ?_
 refine sr_ fun _ hK37 => ?_
 refine mv_ ?_
 refine mv_ ?_
 refine ln_ underlying22 ?_
 refine b_ bin_lss ?_
 refine mv_ ?_
 rcases eti_ H with ⟨c38, H⟩ | ⟨c38, H⟩
 · refine off_ (c' := false) (dF c38) ?_
   refine off_ (c' := false) (dF c38) ?_
   refine v_ (Run.pickF rfl rfl (dF c38) rfl) ?_
   refine dn_ hK37 (wn_ rfl ?_)
   refine WC.exit ?_
   obtain rfl := os H
   exact wv_ iq X26 ⟨i21, xs22, v23, I24, Ho20, rfl, HS⟩
 refine on_ (dT c38) (mv_ ?_)
 refine on_ (dT c38) ?_
 obtain ⟨t39, ha40, H⟩ := bind_some H
 refine cs_ HS func146 (spec_PoolOk.runs k35 A0 c0 l0 t39 _ (HS.getO 0 rfl) hc0 ha40) (fun w41 HS => ?_)
 clear ha40
 refine v_ (Run.pickT rfl rfl (dT c38) rfl) ?_
 refine dn_ hK37 ?_
 rcases eti_ H with ⟨c42, H⟩ | ⟨c42, H⟩
 · refine wn_ (bF c42) (WC.exit ?_)
   obtain rfl := os H
   exact wv_ iq X26 ⟨i21, xs22, v23, I24, Ho20, rfl, HS⟩
 refine wy_ c42 ?_
 refine WC.skip (via_ hK36 (WC.seq fun _ hK43 => ?_))
 refine WC.block (sr_ fun _ hK44 => ?_)
 refine mv_ ?_
 refine mv_ ?_
 obtain ⟨⟨q45, q46⟩, H⟩ := if_some H
 obtain ⟨ad47, rfl⟩ := C_open (HS.getO 0 rfl) (by omega)
 refine v_ (ia_ underlying22 1 q45 q46) ?_
 refine v_ (Run.load rfl rfl underlying3 rfl (int_cell (HS.getO 0 rfl) i21 q45 q46)) ?_
 refine b_ bin_eql ?_
 refine dn_ hK44 ?_
 rcases eti_ H with ⟨c48, H⟩ | ⟨c48, H⟩
 · refine wn_ (eF c48) (WC.skip (via_ hK43 (rg_ (mv_ ?_))))
   refine b_ bin_add64 ?_
   refine as_ ?_
   refine WL.done ?_
   exact wr_ k35 iq ⟨(wrap64 (i21 + 1)), xs22, v23, I24, ⟨_, H, Ho20⟩, rfl, HS⟩
 refine wy_ (eT c48) (sr_ fun _ hK49 => ?_)
 refine mv_ ?_
 refine mv_ ?_
 obtain ⟨⟨q50, q51⟩, H⟩ := if_some H
 obtain ⟨A52, c53, rfl⟩ := row_slice (HS.mu 0 rfl)
 obtain ⟨ad54, rfl⟩ := row_open (HS.mu 0 rfl) (by omega)
 refine v_ (ia_ underlying22 1 q50 q51) ?_
 have hk_ := mul_room q50 q51 1
 refine WL.putEl HS 0 rfl rfl rfl rfl rfl rfl [vi 1] rfl (oneL rfl) (by kernel_rfl) (by first | omega | (rw [List.length_nil]; omega) | (simp; omega)) (fun w55 I56 hI57 HS => ?_)
 dsimp only [List.set] at HS
 clear hk_
 replace HS := HS.deriveN (p := (rF kI (xs22.set i21.toNat 1) I56)) (fun W_ hN_ => reps_set hI57 hN_.1 (K_int _) (toNat_lt q50 q51))
 replace HS := HS.rowN 0 rfl (show xs22.length = (xs22.set i21.toNat 1).length from (List.length_set ..).symm)
 dsimp only [List.set] at HS
 generalize hv59 : (Value.slice (some ad54) xs22.length c53) = v58 at HS ⊢
 refine dn_ hK49 (sr_ fun _ hK60 => ?_)
 refine fast_ ?_
 refine via_ hK60 (WC.ret ?_)
 obtain ⟨A61, c62, rfl⟩ := row_slice (HS.mu 0 rfl)
 replace HS := HS.elsF (xs := (xs22.set i21.toNat 1)) (inner := I56) (Dk.int .i64) (fun _ _ _ h_ => ⟨h_, rfl⟩) (fun _ => (HS.getN 0 rfl))
 replace HS := HS.front 1 rfl
 dsimp only [List.eraseIdx] at HS
 replace HS := HS.seal rfl rfl
 obtain rfl := os H
 rw [hG18] at Ho20
 replace H : some _ = some _ := Ho20
 obtain ⟨rfl, rfl, rfl⟩ := (by have h_ := os H; simp only [Prod.mk.injEq] at h_; exact h_)
 exact fin3 Try.f115 rfl rfl rfl rfl hR_ ⟨_, _, rfl, (St.owns HS), HS.b⟩
end Go.Proofs.Ytlpginalgdbopaa.PFnExactAddCell
