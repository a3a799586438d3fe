/- Functions that the statement reaches, as Lean functions, and the proof that a call of each comes to just its answer; written by this claim's own program. No conditions. -/
import Derived.Test.YtoccifnjhbibcaaGreatGFnExactKeyValue0
namespace Go.Proofs.YtoccifnjhbibcaaGreat.PFnExactKeyValue
open Tryz
open Go.RowKit Go.Proofs.YtoccifnjhbibcaaGreatW.PrintWords Go.Proofs.YtoccifnjhbibcaaGreatW.PrintLast Go.Proofs.YtoccifnjhbibcaaGreatW.PrintMore Go.Proofs.YtoccifnjhbibcaaGreat.XW Go.Proofs.YtoccifnjhbibcaaGreat.XOp Go.Proofs.YtoccifnjhbibcaaGreat.XSt Go.Proofs.YtoccifnjhbibcaaGreat.XDraw
set_option linter.unusedVariables false
set_option linter.unusedSimpArgs false
set_option maxHeartbeats 4000000
set_option maxRecDepth 20000
def laws_toIntSS.b0 (l0 : List (List Int)) (rec_ : Int → (List (List Int)) → Option (Int × (List (List Int)))) (k28 : Nat) (i15 : Int) (xs16 : List (List Int)) : Option (Int × (List (List Int))) := (if i15 < (l0.length : Int) then (if 0 ≤ i15 ∧ i15 < (l0.length : Int) then ((laws_toIntS.g k28 (l0.getD i15.toNat [])).bind fun t39 => (if 0 ≤ i15 ∧ i15 < ((xs16.length : Nat) : Int) then (rec_ (wrap64 (i15 + 1)) (xs16.set i15.toNat t39)) else none)) else none) else (some (i15, xs16)))
def laws_toIntSS.l0 (l0 : List (List Int)) : Nat → Int → (List (List Int)) → Option (Int × (List (List Int)))
 | 0, _, _ => none
 | k + 1, i15, xs16 => laws_toIntSS.b0 l0 (laws_toIntSS.l0 l0 k) k i15 xs16
def laws_toIntSS.g (k : Nat) (l0 : List (List Int)) : Option (List (List Int)) := (if 0 ≤ (l0.length : Int) ∧ (l0.length : Int) < 4294967296 then ((laws_toIntSS.l0 l0 k 0 (List.replicate (l0.length : Int).toNat ([] : List Int))).bind (fun oc26 => (some oc26.2))) else none)
theorem laws_toIntSS.runs (k : Nat) (A0 : Option Addr) (c0 : Nat) (l0 : List (List Int)) (r : List (List Int)) (w : World) (hr0 : kS3.C w A0 l0.length l0) (hc0 : l0.length ≤ c0) (H : laws_toIntSS.g k l0 = some r) :
   Calls prog 99 #[.slice A0 l0.length c0] w fun e w' => ∃ (v0_ : Value) (bl0_ : List Nat), e = .returned (v0_) ∧ Owns w' w.heap.size [valM (Dk.slice 28 (Dk.slice 3 (Dk.int .i64))) r [v0_] bl0_] ∧ Below w.heap.size w w' := by
 unfold laws_toIntSS.g at H
 have HS : St (fun _ => True) w w [] [(cF kS3 A0 l0)] [] := St.start (foot_cons (foot_C (Kd.heap_slice _ (Kd.heap_int _)) hr0) foot_nil)
 refine cw_ (n := 23) func99 fun R_ hR_ => ?_
 refine sr_ fun _ hK1 => ?_
 refine ad_ hK1 ?_
 refine sr_ fun _ hK2 => ?_
 refine mv_ ?_
 refine ln_ underlying26 ?_
 obtain ⟨⟨q3, q4⟩, H⟩ := if_some H
 refine WL.makeO (Dk.slice 3 (Dk.int .i64)) HS rfl rfl (by decide) rfl rfl rfl (sn) 24 ([] : List Int) underlying26 (by kernel_rfl) rfl (by decide) (by decide) (fun _ => ⟨sn, [], [], rfl, rfl, own_nil _ _ _ _, RepsB.none _ _⟩) q3 (by omega) (fun v5 w6 I7 HS => ?_)
 refine ad_ hK2 ?_
 refine WC.seq fun K9 hK9 => ?_
 refine sr_ fun _ hK10 => ?_
 refine ad_ hK10 ?_
 refine WC.block ?_
 obtain ⟨G11, hG12, oc13, H, Ho14⟩ := open_G H
 let J20 := fun (i15 : Int) (xs16 : List (List Int)) v17 I18 bl19 (E_ : Env) (W_ : World) => E_ = [(0, .slice A0 l0.length c0), (3, v17), (4, vi i15)] ∧ St (fun _ => True) w W_ [rowM w.heap.size 28 1 v17 xs16.length I18, elsM (Dk.slice 3 (Dk.int .i64)) xs16 I18 bl19] [(cF kS3 A0 l0)] []
 have X21 : ∀ E_ W_, (∃ i15 xs16 v17 I18 bl19, G11 (i15, xs16) = some r ∧ J20 i15 xs16 v17 I18 bl19 E_ W_) → ∀ a, Fits a 23 E_ → K9 a W_ := by
   rintro E_ w22 ⟨i15, xs16, v17, I18, bl19, H, rfl, HS⟩
   rw [hG12] at H
   (try dsimp only at H)
   refine hK9 _ _ ?_
   refine sr_ fun _ hK23 => ?_
   refine mv_ ?_
   refine ad_ hK23 ?_
   refine WC.ret ?_
   obtain ⟨A24, c25, rfl⟩ := row_slice (HS.mu 0 rfl)
   replace HS := HS.front 1 rfl
   dsimp only [List.eraseIdx] at HS
   replace HS := HS.front 1 rfl
   dsimp only [List.eraseIdx] at HS
   replace HS := HS.seal rfl rfl
   obtain rfl := os H
   exact fin1 Tryz.f99 rfl rfl hR_ ⟨_, _, rfl, (St.owns HS), HS.b⟩
 clear hK9
 refine WC.loop (fun k_ E_ W_ => ∃ i15 xs16 v17 I18 bl19, (∃ o_, laws_toIntSS.l0 l0 k_ i15 xs16 = some o_ ∧ G11 o_ = some r) ∧ J20 i15 xs16 v17 I18 bl19 E_ W_) k ⟨0, (List.replicate (l0.length : Int).toNat ([] : List Int)), v5, I7, ([]), ⟨_, H, Ho14⟩, rfl, HS⟩ (sb rfl) ?_
 rintro k_ E_ w27 ⟨i15, xs16, v17, I18, bl19, ⟨oc13, H, Ho14⟩, rfl, HS⟩
 rcases k_ with _ | k28
 · exact no_ H
 replace H : laws_toIntSS.b0 l0 (laws_toIntSS.l0 l0 k28) k28 i15 xs16 = some oc13 := H
 unfold laws_toIntSS.b0 at H
 refine WC.seq fun _ hK29 => ?_
 refine sr_ fun _ hK30 => ?_
 refine mv_ ?_
 refine mv_ ?_
 refine ln_ underlying26 ?_
 refine b_ bin_lss ?_
 refine dn_ hK30 ?_
 rcases eti_ H with ⟨c31, H⟩ | ⟨c31, H⟩
 · refine wn_ (dF c31) (WC.exit ?_)
   obtain rfl := os H
   exact wv_ iq X21 ⟨i15, xs16, v17, I18, bl19, Ho14, rfl, HS⟩
 refine wy_ (dT c31) (WC.skip (via_ hK29 (WC.seq fun _ hK32 => ?_)))
 refine WC.block (rg_ (mv_ ?_))
 refine mv_ ?_
 refine mv_ ?_
 refine mv_ ?_
 obtain ⟨⟨q33, q34⟩, H⟩ := if_some H
 obtain ⟨ad35, rfl⟩ := C_open (HS.getO 0 rfl) (lenpos q33 q34)
 refine v_ (ia_ underlying26 1 q33 q34) ?_
 obtain ⟨A36, c37, le38, HS⟩ := HS.slO 0 rfl i15 q33 q34
 refine v_ (Run.load rfl rfl underlying28 rfl (HS.getO 1 rfl)) ?_
 obtain ⟨t39, ha40, H⟩ := bind_some H
 refine c_ func21 (laws_toIntS.runs k28 A36 c37 (l0.getD i15.toNat []) t39 _ (HS.getO 0 rfl) le38 ha40) ?_
 clear ha40
 rintro _ w41 ⟨v42, bl43, rfl, hO_, hb⟩
 replace HS := HS.got hb hO_
 dsimp only [List.cons_append, List.nil_append] at HS
 clear hO_
 obtain ⟨I44, bl45, HS⟩ := HS.unseal (sz := 1) rfl
 replace HS := HS.freezeN 1 (p := (rF kI t39 I44)) rfl (fun _ hP_ _ => RepsB.reps hP_)
 dsimp only [List.eraseIdx] at HS
 refine ⟨_, rfl, ?_⟩
 clear hb
 obtain ⟨⟨q46, q47⟩, H⟩ := if_some H
 obtain ⟨A48, c49, rfl⟩ := row_slice (HS.mu 1 rfl)
 obtain ⟨ad50, rfl⟩ := row_open (HS.mu 1 rfl) (lenpos q46 q47)
 refine v_ (ia_ underlying26 1 q46 q47) ?_
 obtain ⟨A54, c55, rfl⟩ := row_slice (HS.mu 0 rfl)
 have hk_ := mul_room q46 q47 1
 refine WL.putEl HS 1 rfl rfl rfl rfl rfl rfl [(.slice A54 t39.length c55)] rfl (oneL rfl) (by kernel_rfl) (by first | omega | (rw [List.length_nil]; omega) | (simp; omega)) (fun w51 I52 hI53 HS => ?_)
 dsimp only [List.set] at HS
 clear hk_
 replace HS := HS.rowN 1 rfl (show xs16.length = (xs16.set i15.toNat t39).length from (List.length_set ..).symm)
 dsimp only [List.set] at HS
 replace HS := HS.elsF (xs := t39) (inner := I44) (Dk.int .i64) (fun _ _ _ h_ => ⟨h_, rfl⟩) (fun _ => (HS.getN 0 rfl))
 replace HS := HS.front 1 rfl
 dsimp only [List.eraseIdx] at HS
 replace HS := HS.seal rfl rfl
 replace HS := HS.front 2 rfl
 dsimp only [List.eraseIdx] at HS
 replace HS := HS.front 1 rfl
 dsimp only [List.eraseIdx] at HS
 obtain ⟨bl56, HS⟩ := HS.elsSet i15.toNat rfl hI53 (toNat_lt q46 q47)
 generalize hv58 : (Value.slice (some ad50) xs16.length c49) = v57 at HS ⊢
 refine dn_ hK32 (rg_ (mv_ ?_))
 refine b_ bin_add64 ?_
 refine as_ ?_
 refine WL.done ?_
 exact wr_ k28 iq ⟨(wrap64 (i15 + 1)), (xs16.set i15.toNat t39), v57, I52, bl56, ⟨_, H, Ho14⟩, rfl, (St.pk (St.front (St.front HS 0 rfl) 1 rfl) [2] [] rfl rfl)⟩
def laws_eqIntS.b0 (l0 : List Int) (l1 : List Int) (rec_ : Int → Option (Bool ⊕ Int)) (k18 : Nat) (i11 : Int) : Option (Bool ⊕ Int) := (if i11 < (l0.length : Int) then (if 0 ≤ i11 ∧ i11 < (l0.length : Int) then (if 0 ≤ i11 ∧ i11 < (l1.length : Int) then (if (l0.getD i11.toNat 0) = (l1.getD i11.toNat 0) then (rec_ (wrap64 (i11 + 1))) else (some (Sum.inl false))) else none) else none) else (some (Sum.inr i11)))
def laws_eqIntS.l0 (l0 : List Int) (l1 : List Int) : Nat → Int → Option (Bool ⊕ Int)
 | 0, _ => none
 | k + 1, i11 => laws_eqIntS.b0 l0 l1 (laws_eqIntS.l0 l0 l1 k) k i11
def laws_eqIntS.g (k : Nat) (l0 : List Int) (l1 : List Int) : Option Bool := (if (l0.length : Int) = (l1.length : Int) then ((laws_eqIntS.l0 l0 l1 k 0).bind (fun oc16 => match oc16 with | .inl r_ => some r_ | .inr i11 => (some true))) else (some false))
theorem laws_eqIntS.runs (k : Nat) (A0 : Option Addr) (c0 : Nat) (l0 : List Int) (A1 : Option Addr) (c1 : Nat) (l1 : List Int) (r : Bool) (w : World) (hr0 : kI.C w A0 l0.length l0) (hc0 : l0.length ≤ c0) (hr1 : kI.C w A1 l1.length l1) (hc1 : l1.length ≤ c1) (H : laws_eqIntS.g k l0 l1 = some r) :
   Calls prog 24 #[.slice A0 l0.length c0, .slice A1 l1.length c1] w fun e w' => e = .returned (.bool r) ∧ Below w.heap.size w w' := by
 unfold laws_eqIntS.g at H
 have HS : St (fun _ => True) w w [] [(cF kI A0 l0), (cF kI A1 l1)] [] := St.start (foot_cons (foot_C (Kd.heap_int _) hr0) (foot_cons (foot_C (Kd.heap_int _) hr1) foot_nil))
 refine cw_ (n := 26) func24 fun R_ hR_ => ?_
 refine sr_ fun _ hK1 => ?_
 refine ad_ hK1 ?_
 refine WC.seq fun _ hK2 => ?_
 refine sr_ fun _ hK3 => ?_
 refine mv_ ?_
 refine ln_ underlying28 ?_
 refine mv_ ?_
 refine ln_ underlying28 ?_
 refine b_ bin_neq ?_
 refine dn_ hK3 ?_
 rcases eti_ H with ⟨c4, H⟩ | ⟨c4, H⟩
 · refine wy_ (qT c4) (sr_ fun _ hK33 => ?_)
   refine ad_ hK33 ?_
   obtain rfl := os H
   exact rt1 Tryz.f24 rfl rfl hR_ ⟨rfl, HS.b⟩
 refine wn_ (qF c4) (WC.skip (via_ hK2 (WC.seq fun K5 hK5 => ?_)))
 refine sr_ fun _ hK6 => ?_
 refine ad_ hK6 ?_
 refine WC.block ?_
 obtain ⟨G7, hG8, oc9, H, Ho10⟩ := open_G H
 let J12 := fun (i11 : Int) (E_ : Env) (W_ : World) => E_ = [(0, .slice A0 l0.length c0), (1, .slice A1 l1.length c1), (5, vi i11)] ∧ St (fun _ => True) w W_ [] [(cF kI A0 l0), (cF kI A1 l1)] []
 have X13 : ∀ E_ W_, (∃ i11, G7 (Sum.inr i11) = some r ∧ J12 i11 E_ W_) → ∀ a, Fits a 26 E_ → K5 a W_ := by
   rintro E_ w14 ⟨i11, H, rfl, HS⟩
   rw [hG8] at H
   (try dsimp only at H)
   refine hK5 _ _ ?_
   refine sr_ fun _ hK15 => ?_
   refine ad_ hK15 ?_
   obtain rfl := os H
   exact rt1 Tryz.f24 rfl rfl hR_ ⟨rfl, HS.b⟩
 clear hK5
 refine WC.loop (fun k_ E_ W_ => ∃ i11, (∃ o_, laws_eqIntS.l0 l0 l1 k_ i11 = some o_ ∧ G7 o_ = some r) ∧ J12 i11 E_ W_) k ⟨0, ⟨_, H, Ho10⟩, rfl, HS⟩ (sb rfl) ?_
 rintro k_ E_ w17 ⟨i11, ⟨oc9, H, Ho10⟩, rfl, HS⟩
 rcases k_ with _ | k18
 · exact no_ H
 replace H : laws_eqIntS.b0 l0 l1 (laws_eqIntS.l0 l0 l1 k18) k18 i11 = some oc9 := H
 unfold laws_eqIntS.b0 at H
 refine WC.seq fun _ hK19 => ?_
 refine sr_ fun _ hK20 => ?_
 refine mv_ ?_
 refine mv_ ?_
 refine ln_ underlying28 ?_
 refine b_ bin_lss ?_
 refine dn_ hK20 ?_
 rcases eti_ H with ⟨c21, H⟩ | ⟨c21, H⟩
 · refine wn_ (dF c21) (WC.exit ?_)
   obtain rfl := os H
   exact wv_ iq X13 ⟨i11, Ho10, rfl, HS⟩
 refine wy_ (dT c21) (WC.skip (via_ hK19 (WC.seq fun _ hK22 => ?_)))
 refine WC.block (WC.seq fun _ hK23 => ?_)
 refine WC.drawS HS [] rfl rfl (fun w24 HS => ?_)
 have HB := Below.refl w24.heap.size w24
 have HSW := HS
 refine dm_ 0 ?_
 refine dm_ 1 ?_
 obtain ⟨⟨q25, q26⟩, H⟩ := if_some H
 obtain ⟨ad27, rfl⟩ := C_open (HS.getO 0 rfl) (lenpos q25 q26)
 refine di_ 2 underlying28 1 q25 q26 ?_
 refine dm_ 4 ?_
 refine dm_ 5 ?_
 obtain ⟨⟨q28, q29⟩, H⟩ := if_some H
 obtain ⟨ad30, rfl⟩ := C_open (HS.getO 1 rfl) (lenpos q28 q29)
 refine di_ 6 underlying28 1 q28 q29 ?_
 refine dt_ 3 (Below.refl _ _) (fun w_ hw_ => Run.load rfl rfl underlying3 rfl (int_cell ((HS.below hw_).getO 0 rfl) i11 q25 q26)) ?_
 refine dt_ 7 (Below.refl _ _) (fun w_ hw_ => Run.load rfl rfl underlying3 rfl (int_cell ((HS.below hw_).getO 1 rfl) i11 q28 q29)) ?_
 refine dp_ 8 (fun _ => Run.bin rfl rfl rfl bin_neq) ?_
 refine dd_ ?_
 clear HB HSW
 refine via_ hK23 ?_
 rcases ite_ H with ⟨c31, H⟩ | ⟨c31, H⟩
 · refine wn_ (qF c31) (WC.skip (via_ hK22 (rg_ (mv_ ?_))))
   refine b_ bin_add64 ?_
   refine as_ ?_
   refine WL.done ?_
   exact wr_ k18 iq ⟨(wrap64 (i11 + 1)), ⟨_, H, Ho10⟩, rfl, HS⟩
 refine wy_ (qT c31) (sr_ fun _ hK32 => ?_)
 refine ad_ hK32 ?_
 refine WC.ret ?_
 obtain rfl := os H
 rw [hG8] at Ho10
 replace H : some _ = some _ := Ho10
 obtain rfl := os H
 exact fin1 Tryz.f24 rfl rfl hR_ ⟨rfl, HS.b⟩
def laws_eqIntSS.b0 (l0 : List (List Int)) (l1 : List (List Int)) (rec_ : Int → Option (Bool ⊕ Int)) (k18 : Nat) (i11 : Int) : Option (Bool ⊕ Int) := (if i11 < (l0.length : Int) then (if 0 ≤ i11 ∧ i11 < (l0.length : Int) then (if 0 ≤ i11 ∧ i11 < (l1.length : Int) then ((laws_eqIntS.g k18 (l0.getD i11.toNat []) (l1.getD i11.toNat [])).bind fun t37 => (if t37 = true then (rec_ (wrap64 (i11 + 1))) else (some (Sum.inl false)))) else none) else none) else (some (Sum.inr i11)))
def laws_eqIntSS.l0 (l0 : List (List Int)) (l1 : List (List Int)) : Nat → Int → Option (Bool ⊕ Int)
 | 0, _ => none
 | k + 1, i11 => laws_eqIntSS.b0 l0 l1 (laws_eqIntSS.l0 l0 l1 k) k i11
def laws_eqIntSS.g (k : Nat) (l0 : List (List Int)) (l1 : List (List Int)) : Option Bool := (if (l0.length : Int) = (l1.length : Int) then ((laws_eqIntSS.l0 l0 l1 k 0).bind (fun oc16 => match oc16 with | .inl r_ => some r_ | .inr i11 => (some true))) else (some false))
theorem laws_eqIntSS.runs (k : Nat) (A0 : Option Addr) (c0 : Nat) (l0 : List (List Int)) (A1 : Option Addr) (c1 : Nat) (l1 : List (List Int)) (r : Bool) (w : World) (hr0 : kS3.C w A0 l0.length l0) (hc0 : l0.length ≤ c0) (hr1 : kS3.C w A1 l1.length l1) (hc1 : l1.length ≤ c1) (H : laws_eqIntSS.g k l0 l1 = some r) :
   Calls prog 75 #[.slice A0 l0.length c0, .slice A1 l1.length c1] w fun e w' => e = .returned (.bool r) ∧ Below w.heap.size w w' := by
 unfold laws_eqIntSS.g at H
 have HS : St (fun _ => True) w w [] [(cF kS3 A0 l0), (cF kS3 A1 l1)] [] := St.start (foot_cons (foot_C (Kd.heap_slice _ (Kd.heap_int _)) hr0) (foot_cons (foot_C (Kd.heap_slice _ (Kd.heap_int _)) hr1) foot_nil))
 refine cw_ (n := 27) func75 fun R_ hR_ => ?_
 refine sr_ fun _ hK1 => ?_
 refine ad_ hK1 ?_
 refine WC.seq fun _ hK2 => ?_
 refine sr_ fun _ hK3 => ?_
 refine mv_ ?_
 refine ln_ underlying26 ?_
 refine mv_ ?_
 refine ln_ underlying26 ?_
 refine b_ bin_neq ?_
 refine dn_ hK3 ?_
 rcases eti_ H with ⟨c4, H⟩ | ⟨c4, H⟩
 · refine wy_ (qT c4) (sr_ fun _ hK42 => ?_)
   refine ad_ hK42 ?_
   obtain rfl := os H
   exact rt1 Tryz.f75 rfl rfl hR_ ⟨rfl, HS.b⟩
 refine wn_ (qF c4) (WC.skip (via_ hK2 (WC.seq fun K5 hK5 => ?_)))
 refine sr_ fun _ hK6 => ?_
 refine ad_ hK6 ?_
 refine WC.block ?_
 obtain ⟨G7, hG8, oc9, H, Ho10⟩ := open_G H
 let J12 := fun (i11 : Int) (E_ : Env) (W_ : World) => E_ = [(0, .slice A0 l0.length c0), (1, .slice A1 l1.length c1), (5, vi i11)] ∧ St (fun _ => True) w W_ [] [(cF kS3 A0 l0), (cF kS3 A1 l1)] []
 have X13 : ∀ E_ W_, (∃ i11, G7 (Sum.inr i11) = some r ∧ J12 i11 E_ W_) → ∀ a, Fits a 27 E_ → K5 a W_ := by
   rintro E_ w14 ⟨i11, H, rfl, HS⟩
   rw [hG8] at H
   (try dsimp only at H)
   refine hK5 _ _ ?_
   refine sr_ fun _ hK15 => ?_
   refine ad_ hK15 ?_
   obtain rfl := os H
   exact rt1 Tryz.f75 rfl rfl hR_ ⟨rfl, HS.b⟩
 clear hK5
 refine WC.loop (fun k_ E_ W_ => ∃ i11, (∃ o_, laws_eqIntSS.l0 l0 l1 k_ i11 = some o_ ∧ G7 o_ = some r) ∧ J12 i11 E_ W_) k ⟨0, ⟨_, H, Ho10⟩, rfl, HS⟩ (sb rfl) ?_
 rintro k_ E_ w17 ⟨i11, ⟨oc9, H, Ho10⟩, rfl, HS⟩
 rcases k_ with _ | k18
 · exact no_ H
 replace H : laws_eqIntSS.b0 l0 l1 (laws_eqIntSS.l0 l0 l1 k18) k18 i11 = some oc9 := H
 unfold laws_eqIntSS.b0 at H
 refine WC.seq fun _ hK19 => ?_
 refine sr_ fun _ hK20 => ?_
 refine mv_ ?_
 refine mv_ ?_
 refine ln_ underlying26 ?_
 refine b_ bin_lss ?_
 refine dn_ hK20 ?_
 rcases eti_ H with ⟨c21, H⟩ | ⟨c21, H⟩
 · refine wn_ (dF c21) (WC.exit ?_)
   obtain rfl := os H
   exact wv_ iq X13 ⟨i11, Ho10, rfl, HS⟩
 refine wy_ (dT c21) (WC.skip (via_ hK19 (WC.seq fun _ hK22 => ?_)))
 refine WC.block (WC.seq fun _ hK23 => ?_)
 refine WC.drawS HS [] rfl rfl (fun w24 HS => ?_)
 have HB := Below.refl w24.heap.size w24
 have HSW := HS
 refine dm_ 0 ?_
 refine dm_ 1 ?_
 obtain ⟨⟨q25, q26⟩, H⟩ := if_some H
 obtain ⟨ad27, rfl⟩ := C_open (HS.getO 0 rfl) (lenpos q25 q26)
 refine di_ 2 underlying26 1 q25 q26 ?_
 refine dm_ 4 ?_
 refine dm_ 5 ?_
 obtain ⟨⟨q28, q29⟩, H⟩ := if_some H
 obtain ⟨ad30, rfl⟩ := C_open (HS.getO 1 rfl) (lenpos q28 q29)
 refine di_ 6 underlying26 1 q28 q29 ?_
 obtain ⟨A31, c32, le33, HS⟩ := HS.slO 0 rfl i11 q25 q26
 replace HSW := HS
 refine dt_ 3 (Below.refl _ _) (fun w_ hw_ => Run.load rfl rfl underlying28 rfl ((HS.below hw_).getO 1 rfl)) ?_
 obtain ⟨A34, c35, le36, HS⟩ := HS.slO 3 rfl i11 q28 q29
 replace HSW := HS
 refine dt_ 7 (Below.refl _ _) (fun w_ hw_ => Run.load rfl rfl underlying28 rfl ((HS.below hw_).getO 1 rfl)) ?_
 obtain ⟨t37, ha38, H⟩ := bind_some H
 refine dcs_ HS HB 8 (w_none rfl) func24 (laws_eqIntS.runs k18 A31 c32 (l0.getD i11.toNat []) A34 c35 (l1.getD i11.toNat []) t37 _ (HS.getO 2 rfl) le33 (HS.getO 0 rfl) le36 ha38) (fun w39 HS HB => ?_)
 clear ha38
 refine dp_ 9 (fun _ => Run.not rfl rfl) ?_
 refine dd_ ?_
 clear HB HSW
 refine via_ hK23 ?_
 rcases ite_ H with ⟨c40, H⟩ | ⟨c40, H⟩
 · refine wn_ (nB c40) (WC.skip (via_ hK22 (rg_ (mv_ ?_))))
   refine b_ bin_add64 ?_
   refine as_ ?_
   refine WL.done ?_
   exact wr_ k18 iq ⟨(wrap64 (i11 + 1)), ⟨_, H, Ho10⟩, rfl, (St.pk HS [4, 5] [] rfl rfl)⟩
 refine wy_ (nB (bF c40)) (sr_ fun _ hK41 => ?_)
 refine ad_ hK41 ?_
 refine WC.ret ?_
 obtain rfl := os H
 rw [hG8] at Ho10
 replace H : some _ = some _ := Ho10
 obtain rfl := os H
 exact fin1 Tryz.f75 rfl rfl hR_ ⟨rfl, HS.b⟩
def laws_szIntS.g (k : Nat) (l0 : List Int) (a1 : Int) : Option Int := (if (wrap64 (a1 - (l0.length : Int))) < 0 then (some (-1)) else (some (wrap64 (a1 - (l0.length : Int)))))
theorem laws_szIntS.runs (k : Nat) (A0 : Option Addr) (c0 : Nat) (l0 : List Int) (a1 : Int) (r : Int) (w : World) (hr0 : kI.C w A0 l0.length l0) (hc0 : l0.length ≤ c0) (H : laws_szIntS.g k l0 a1 = some r) :
   Calls prog 92 #[.slice A0 l0.length c0, vi a1] w fun e w' => e = .returned (vi r) ∧ Below w.heap.size w w' := by
 unfold laws_szIntS.g at H
 have HS : St (fun _ => True) w w [] [(cF kI A0 l0)] [] := St.start (foot_cons (foot_C (Kd.heap_int _) hr0) foot_nil)
 refine cw_ (n := 12) func92 fun R_ hR_ => ?_
 refine sr_ fun _ hK1 => ?_
 refine ad_ hK1 ?_
 refine sr_ fun _ hK2 => ?_
 refine mv_ ?_
 refine mv_ ?_
 refine ln_ underlying28 ?_
 refine b_ bin_sub64 ?_
 refine ad_ hK2 ?_
 refine WC.seq fun _ hK3 => ?_
 refine sr_ fun _ hK4 => ?_
 refine mv_ ?_
 refine b_ bin_lss ?_
 refine dn_ hK4 ?_
 rcases ite_ H with ⟨c5, H⟩ | ⟨c5, H⟩
 · refine wy_ (dT c5) (sr_ fun _ hK6 => ?_)
   refine ad_ hK6 ?_
   obtain rfl := os H
   exact rt1 Tryz.f92 rfl rfl hR_ ⟨rfl, HS.b⟩
 refine wn_ (dF c5) (WC.skip (via_ hK3 (sr_ fun _ hK7 => ?_)))
 refine mv_ ?_
 refine ad_ hK7 ?_
 obtain rfl := os H
 exact rt1 Tryz.f92 rfl rfl hR_ ⟨rfl, HS.b⟩
def laws_szIntSS.b0 (l0 : List (List Int)) (rec_ : Int → Int → Option (Int ⊕ (Int × Int))) (k21 : Nat) (i13 : Int) (i14 : Int) : Option (Int ⊕ (Int × Int)) := (if i14 < (l0.length : Int) then (if 0 ≤ i14 ∧ i14 < (l0.length : Int) then ((laws_szIntS.g k21 (l0.getD i14.toNat []) i13).bind fun t33 => (if t33 < 0 then (some (Sum.inl (-1))) else (rec_ t33 (wrap64 (i14 + 1))))) else none) else (some (Sum.inr (i13, i14))))
def laws_szIntSS.l0 (l0 : List (List Int)) : Nat → Int → Int → Option (Int ⊕ (Int × Int))
 | 0, _, _ => none
 | k + 1, i13, i14 => laws_szIntSS.b0 l0 (laws_szIntSS.l0 l0 k) k i13 i14
def laws_szIntSS.g (k : Nat) (l0 : List (List Int)) (a1 : Int) : Option Int := (if (wrap64 (a1 - (l0.length : Int))) < 0 then (some (-1)) else ((laws_szIntSS.l0 l0 k (wrap64 (a1 - (l0.length : Int))) 0).bind (fun oc19 => match oc19 with | .inl r_ => some r_ | .inr ⟨i13, i14⟩ => (some i13))))
theorem laws_szIntSS.runs (k : Nat) (A0 : Option Addr) (c0 : Nat) (l0 : List (List Int)) (a1 : Int) (r : Int) (w : World) (hr0 : kS3.C w A0 l0.length l0) (hc0 : l0.length ≤ c0) (H : laws_szIntSS.g k l0 a1 = some r) :
   Calls prog 90 #[.slice A0 l0.length c0, vi a1] w fun e w' => e = .returned (vi r) ∧ Below w.heap.size w w' := by
 unfold laws_szIntSS.g at H
 have HS : St (fun _ => True) w w [] [(cF kS3 A0 l0)] [] := St.start (foot_cons (foot_C (Kd.heap_slice _ (Kd.heap_int _)) hr0) foot_nil)
 refine cw_ (n := 27) func90 fun R_ hR_ => ?_
 refine sr_ fun _ hK1 => ?_
 refine ad_ hK1 ?_
 refine sr_ fun _ hK2 => ?_
 refine mv_ ?_
 refine mv_ ?_
 refine ln_ underlying26 ?_
 refine b_ bin_sub64 ?_
 refine ad_ hK2 ?_
 refine WC.seq fun _ hK3 => ?_
 refine sr_ fun _ hK4 => ?_
 refine mv_ ?_
 refine b_ bin_lss ?_
 refine dn_ hK4 ?_
 rcases ite_ H with ⟨c5, H⟩ | ⟨c5, H⟩
 · refine wy_ (dT c5) (sr_ fun _ hK6 => ?_)
   refine ad_ hK6 ?_
   obtain rfl := os H
   exact rt1 Tryz.f90 rfl rfl hR_ ⟨rfl, HS.b⟩
 refine wn_ (dF c5) (WC.skip (via_ hK3 (WC.seq fun K7 hK7 => ?_)))
 refine sr_ fun _ hK8 => ?_
 refine ad_ hK8 ?_
 refine WC.block ?_
 obtain ⟨G9, hG10, oc11, H, Ho12⟩ := open_G H
 let J15 := fun (i13 : Int) (i14 : Int) (E_ : Env) (W_ : World) => E_ = [(0, .slice A0 l0.length c0), (1, vi i13), (5, vi i14)] ∧ St (fun _ => True) w W_ [] [(cF kS3 A0 l0)] []
 have X16 : ∀ E_ W_, (∃ i13 i14, G9 (Sum.inr (i13, i14)) = some r ∧ J15 i13 i14 E_ W_) → ∀ a, Fits a 27 E_ → K7 a W_ := by
   rintro E_ w17 ⟨i13, i14, H, rfl, HS⟩
   rw [hG10] at H
   (try dsimp only at H)
   refine hK7 _ _ ?_
   refine sr_ fun _ hK18 => ?_
   refine mv_ ?_
   refine ad_ hK18 ?_
   obtain rfl := os H
   exact rt1 Tryz.f90 rfl rfl hR_ ⟨rfl, HS.b⟩
 clear hK7
 refine WC.loop (fun k_ E_ W_ => ∃ i13 i14, (∃ o_, laws_szIntSS.l0 l0 k_ i13 i14 = some o_ ∧ G9 o_ = some r) ∧ J15 i13 i14 E_ W_) k ⟨(wrap64 (a1 - (l0.length : Int))), 0, ⟨_, H, Ho12⟩, rfl, HS⟩ (sb rfl) ?_
 rintro k_ E_ w20 ⟨i13, i14, ⟨oc11, H, Ho12⟩, rfl, HS⟩
 rcases k_ with _ | k21
 · exact no_ H
 replace H : laws_szIntSS.b0 l0 (laws_szIntSS.l0 l0 k21) k21 i13 i14 = some oc11 := H
 unfold laws_szIntSS.b0 at H
 refine WC.seq fun _ hK22 => ?_
 refine sr_ fun _ hK23 => ?_
 refine mv_ ?_
 refine mv_ ?_
 refine ln_ underlying26 ?_
 refine b_ bin_lss ?_
 refine dn_ hK23 ?_
 rcases eti_ H with ⟨c24, H⟩ | ⟨c24, H⟩
 · refine wn_ (dF c24) (WC.exit ?_)
   obtain rfl := os H
   exact wv_ iq X16 ⟨i13, i14, Ho12, rfl, HS⟩
 refine wy_ (dT c24) (WC.skip (via_ hK22 (WC.seq fun _ hK25 => ?_)))
 refine WC.block (sr_ fun _ hK26 => ?_)
 refine mv_ ?_
 refine mv_ ?_
 obtain ⟨⟨q27, q28⟩, H⟩ := if_some H
 obtain ⟨ad29, rfl⟩ := C_open (HS.getO 0 rfl) (lenpos q27 q28)
 refine v_ (ia_ underlying26 1 q27 q28) ?_
 obtain ⟨A30, c31, le32, HS⟩ := HS.slO 0 rfl i14 q27 q28
 refine v_ (Run.load rfl rfl underlying28 rfl (HS.getO 1 rfl)) ?_
 refine mv_ ?_
 obtain ⟨t33, ha34, H⟩ := bind_some H
 refine cs_ HS func92 (laws_szIntS.runs k21 A30 c31 (l0.getD i14.toNat []) i13 t33 _ (HS.getO 0 rfl) le32 ha34) (fun w35 HS => ?_)
 clear ha34
 refine ad_ hK26 ?_
 refine sr_ fun _ hK36 => ?_
 refine mv_ ?_
 refine b_ bin_lss ?_
 refine dn_ hK36 ?_
 rcases eti_ H with ⟨c37, H⟩ | ⟨c37, H⟩
 · refine wn_ (dF c37) (WC.skip (via_ hK25 (rg_ (mv_ ?_))))
   refine b_ bin_add64 ?_
   refine as_ ?_
   refine WL.done ?_
   exact wr_ k21 iq ⟨t33, (wrap64 (i14 + 1)), ⟨_, H, Ho12⟩, rfl, (St.pk HS [2] [] rfl rfl)⟩
 refine wy_ (dT c37) (sr_ fun _ hK38 => ?_)
 refine ad_ hK38 ?_
 refine WC.ret ?_
 obtain rfl := os H
 rw [hG10] at Ho12
 replace H : some _ = some _ := Ho12
 obtain rfl := os H
 exact fin1 Tryz.f90 rfl rfl hR_ ⟨rfl, HS.b⟩
def laws_szMergeS.g (k : Nat) (l0 : List S225) (a1 : Int) : Option Int := (if (wrap64 (a1 - (l0.length : Int))) < 0 then (some (-1)) else (some (wrap64 (a1 - (l0.length : Int)))))
theorem laws_szMergeS.runs (k : Nat) (A0 : Option Addr) (c0 : Nat) (l0 : List S225) (a1 : Int) (r : Int) (w : World) (hr0 : k225.C w A0 l0.length l0) (hc0 : l0.length ≤ c0) (H : laws_szMergeS.g k l0 a1 = some r) :
   Calls prog 89 #[.slice A0 l0.length c0, vi a1] w fun e w' => e = .returned (vi r) ∧ Below w.heap.size w w' := by
 unfold laws_szMergeS.g at H
 have HS : St (fun _ => True) w w [] [(cF k225 A0 l0)] [] := St.start (foot_cons (foot_C h225 hr0) foot_nil)
 refine cw_ (n := 12) func89 fun R_ hR_ => ?_
 refine sr_ fun _ hK1 => ?_
 refine ad_ hK1 ?_
 refine sr_ fun _ hK2 => ?_
 refine mv_ ?_
 refine mv_ ?_
 refine ln_ underlying42 ?_
 refine b_ bin_sub64 ?_
 refine ad_ hK2 ?_
 refine WC.seq fun _ hK3 => ?_
 refine sr_ fun _ hK4 => ?_
 refine mv_ ?_
 refine b_ bin_lss ?_
 refine dn_ hK4 ?_
 rcases ite_ H with ⟨c5, H⟩ | ⟨c5, H⟩
 · refine wy_ (dT c5) (sr_ fun _ hK6 => ?_)
   refine ad_ hK6 ?_
   obtain rfl := os H
   exact rt1 Tryz.f89 rfl rfl hR_ ⟨rfl, HS.b⟩
 refine wn_ (dF c5) (WC.skip (via_ hK3 (sr_ fun _ hK7 => ?_)))
 refine mv_ ?_
 refine ad_ hK7 ?_
 obtain rfl := os H
 exact rt1 Tryz.f89 rfl rfl hR_ ⟨rfl, HS.b⟩
def laws_szMatrix.g (k : Nat) (x0 : S44) (a1 : Int) : Option Int := ((laws_szIntSS.g k x0.f1 a1).bind fun t5 => (if t5 < 0 then (some (-1)) else ((laws_szIntSS.g k x0.f2 t5).bind fun t13 => (if t13 < 0 then (some (-1)) else (some t13)))))
theorem laws_szMatrix.runs (k : Nat) (x0 : S44) (A0_1 : Option Addr) (c0_1 : Nat) (A0_2 : Option Addr) (c0_2 : Nat) (a1 : Int) (r : Int) (w : World) (hr0_1 : kS3.C w A0_1 x0.f1.length x0.f1) (hc0_1 : x0.f1.length ≤ c0_1) (hr0_2 : kS3.C w A0_2 x0.f2.length x0.f2) (hc0_2 : x0.f2.length ≤ c0_2) (H : laws_szMatrix.g k x0 a1 = some r) :
   Calls prog 93 #[.agg #[vi x0.f0, .slice A0_1 x0.f1.length c0_1, .slice A0_2 x0.f2.length c0_2, vi x0.f3, vi x0.f4], vi a1] w fun e w' => e = .returned (vi r) ∧ Below w.heap.size w w' := by
 unfold laws_szMatrix.g at H
 have HS : St (fun _ => True) w w [] [(cF kS3 A0_1 x0.f1), (cF kS3 A0_2 x0.f2)] [] := St.start (foot_cons (foot_C (Kd.heap_slice _ (Kd.heap_int _)) hr0_1) (foot_cons (foot_C (Kd.heap_slice _ (Kd.heap_int _)) hr0_2) foot_nil))
 refine cw_ (n := 18) func93 fun R_ hR_ => ?_
 refine sr_ fun _ hK1 => ?_
 refine bo_ HS (fun b2 w3 hb2 HS => ?_)
 refine ad_ hK1 ?_
 refine sr_ fun _ hK4 => ?_
 refine v_ (fa_ underlying44) ?_
 refine v_ (lb_ (HS.mu 0 rfl) underlying26 rfl) ?_
 refine mv_ ?_
 obtain ⟨t5, ha6, H⟩ := bind_some H
 refine cs_ HS func90 (laws_szIntSS.runs k A0_1 c0_1 x0.f1 a1 t5 _ (HS.getO 0 rfl) hc0_1 ha6) (fun w7 HS => ?_)
 clear ha6
 refine ad_ hK4 ?_
 refine WC.seq fun _ hK8 => ?_
 refine sr_ fun _ hK9 => ?_
 refine mv_ ?_
 refine b_ bin_lss ?_
 refine dn_ hK9 ?_
 rcases ite_ H with ⟨c10, H⟩ | ⟨c10, H⟩
 · refine wy_ (dT c10) (sr_ fun _ hK11 => ?_)
   refine ad_ hK11 ?_
   obtain rfl := os H
   exact rt1 Tryz.f93 rfl rfl hR_ ⟨rfl, HS.b⟩
 refine wn_ (dF c10) (WC.skip (via_ hK8 (sr_ fun _ hK12 => ?_)))
 refine v_ (fa_ underlying44) ?_
 refine v_ (lb_ (HS.mu 0 rfl) underlying26 rfl) ?_
 refine mv_ ?_
 obtain ⟨t13, ha14, H⟩ := bind_some H
 refine cs_ HS func90 (laws_szIntSS.runs k A0_2 c0_2 x0.f2 t5 t13 _ (HS.getO 1 rfl) hc0_2 ha14) (fun w15 HS => ?_)
 clear ha14
 refine ad_ hK12 ?_
 refine WC.seq fun _ hK16 => ?_
 refine sr_ fun _ hK17 => ?_
 refine mv_ ?_
 refine b_ bin_lss ?_
 refine dn_ hK17 ?_
 rcases ite_ H with ⟨c18, H⟩ | ⟨c18, H⟩
 · refine wy_ (dT c18) (sr_ fun _ hK19 => ?_)
   refine ad_ hK19 ?_
   obtain rfl := os H
   exact rt1 Tryz.f93 rfl rfl hR_ ⟨rfl, HS.b⟩
 refine wn_ (dF c18) (WC.skip (via_ hK16 (sr_ fun _ hK20 => ?_)))
 refine mv_ ?_
 refine ad_ hK20 ?_
 obtain rfl := os H
 exact rt1 Tryz.f93 rfl rfl hR_ ⟨rfl, HS.b⟩
def laws_szTurns.g (k : Nat) (x0 : S45) (a1 : Int) : Option Int := ((laws_szIntSS.g k x0.f0 a1).bind fun t5 => (if t5 < 0 then (some (-1)) else ((laws_szIntSS.g k x0.f1 t5).bind fun t13 => (if t13 < 0 then (some (-1)) else (some t13)))))
theorem laws_szTurns.runs (k : Nat) (x0 : S45) (A0_0 : Option Addr) (c0_0 : Nat) (A0_1 : Option Addr) (c0_1 : Nat) (a1 : Int) (r : Int) (w : World) (hr0_0 : kS3.C w A0_0 x0.f0.length x0.f0) (hc0_0 : x0.f0.length ≤ c0_0) (hr0_1 : kS3.C w A0_1 x0.f1.length x0.f1) (hc0_1 : x0.f1.length ≤ c0_1) (H : laws_szTurns.g k x0 a1 = some r) :
   Calls prog 94 #[.agg #[.slice A0_0 x0.f0.length c0_0, .slice A0_1 x0.f1.length c0_1], vi a1] w fun e w' => e = .returned (vi r) ∧ Below w.heap.size w w' := by
 unfold laws_szTurns.g at H
 have HS : St (fun _ => True) w w [] [(cF kS3 A0_0 x0.f0), (cF kS3 A0_1 x0.f1)] [] := St.start (foot_cons (foot_C (Kd.heap_slice _ (Kd.heap_int _)) hr0_0) (foot_cons (foot_C (Kd.heap_slice _ (Kd.heap_int _)) hr0_1) foot_nil))
 refine cw_ (n := 18) func94 fun R_ hR_ => ?_
 refine sr_ fun _ hK1 => ?_
 refine bo_ HS (fun b2 w3 hb2 HS => ?_)
 refine ad_ hK1 ?_
 refine sr_ fun _ hK4 => ?_
 refine v_ (fa_ underlying45) ?_
 refine v_ (lb_ (HS.mu 0 rfl) underlying26 rfl) ?_
 refine mv_ ?_
 obtain ⟨t5, ha6, H⟩ := bind_some H
 refine cs_ HS func90 (laws_szIntSS.runs k A0_0 c0_0 x0.f0 a1 t5 _ (HS.getO 0 rfl) hc0_0 ha6) (fun w7 HS => ?_)
 clear ha6
 refine ad_ hK4 ?_
 refine WC.seq fun _ hK8 => ?_
 refine sr_ fun _ hK9 => ?_
 refine mv_ ?_
 refine b_ bin_lss ?_
 refine dn_ hK9 ?_
 rcases ite_ H with ⟨c10, H⟩ | ⟨c10, H⟩
 · refine wy_ (dT c10) (sr_ fun _ hK11 => ?_)
   refine ad_ hK11 ?_
   obtain rfl := os H
   exact rt1 Tryz.f94 rfl rfl hR_ ⟨rfl, HS.b⟩
 refine wn_ (dF c10) (WC.skip (via_ hK8 (sr_ fun _ hK12 => ?_)))
 refine v_ (fa_ underlying45) ?_
 refine v_ (lb_ (HS.mu 0 rfl) underlying26 rfl) ?_
 refine mv_ ?_
 obtain ⟨t13, ha14, H⟩ := bind_some H
 refine cs_ HS func90 (laws_szIntSS.runs k A0_1 c0_1 x0.f1 t5 t13 _ (HS.getO 1 rfl) hc0_1 ha14) (fun w15 HS => ?_)
 clear ha14
 refine ad_ hK12 ?_
 refine WC.seq fun _ hK16 => ?_
 refine sr_ fun _ hK17 => ?_
 refine mv_ ?_
 refine b_ bin_lss ?_
 refine dn_ hK17 ?_
 rcases ite_ H with ⟨c18, H⟩ | ⟨c18, H⟩
 · refine wy_ (dT c18) (sr_ fun _ hK19 => ?_)
   refine ad_ hK19 ?_
   obtain rfl := os H
   exact rt1 Tryz.f94 rfl rfl hR_ ⟨rfl, HS.b⟩
 refine wn_ (dF c18) (WC.skip (via_ hK16 (sr_ fun _ hK20 => ?_)))
 refine mv_ ?_
 refine ad_ hK20 ?_
 obtain rfl := os H
 exact rt1 Tryz.f94 rfl rfl hR_ ⟨rfl, HS.b⟩
def laws_toMerge.g (k : Nat) (x0 : S225) : Option S114 := (some (⟨x0.f0, x0.f1⟩ : S114))
theorem laws_toMerge.runs (k : Nat) (x0 : S225) (r : S114) (w : World) (H : laws_toMerge.g k x0 = some r) :
   Calls prog 181 #[.agg #[vi x0.f0, vi x0.f1]] w fun e w' => e = .returned (.agg #[vi r.f0, vi r.f1]) ∧ Below w.heap.size w w' := by
 unfold laws_toMerge.g at H
 have HS : St (fun _ => True) w w [] [] [] := St.start foot_nil
 refine cw_ (n := 11) func181 fun R_ hR_ => ?_
 refine sr_ fun _ hK1 => ?_
 refine bo_ HS (fun b2 w3 hb2 HS => ?_)
 refine WL.alloc HS (v := .agg #[vi 0, vi 0]) (cs := #[vi 0, vi 0]) rfl rfl (by decide) rfl (by kernel_rfl) rfl (fun b4 w5 hb4 HS => ?_)
 refine dn_ hK1 (sr_ fun _ hK6 => ?_)
 refine WL.alloc HS (v := .agg #[vi 0, vi 0]) (cs := #[vi 0, vi 0]) rfl rfl (by decide) rfl (by kernel_rfl) rfl (fun b7 w8 hb7 HS => ?_)
 refine dn_ hK6 (sr_ fun _ hK9 => ?_)
 refine v_ (fa_ underlying225) ?_
 refine v_ (lb_ (HS.mu 2 rfl) underlying3 rfl) ?_
 refine v_ (fa_ underlying114) ?_
 refine WL.store HS 0 rfl rfl rfl rfl rfl rfl rfl (by kernel_rfl) (ble_ rfl) (cs' := #[vi x0.f0, vi 0]) (by kernel_rfl) (fun w10 HS => ?_)
 dsimp only [List.set] at HS
 refine dn_ hK9 (sr_ fun _ hK11 => ?_)
 refine v_ (fa_ underlying225) ?_
 refine v_ (lb_ (HS.mu 2 rfl) underlying3 rfl) ?_
 refine v_ (fa_ underlying114) ?_
 refine WL.store HS 0 rfl rfl rfl rfl rfl rfl rfl (by kernel_rfl) (ble_ rfl) (cs' := #[vi x0.f0, vi x0.f1]) (by kernel_rfl) (fun w12 HS => ?_)
 dsimp only [List.set] at HS
 refine dn_ hK11 (sr_ fun _ hK13 => ?_)
 refine v_ (ls_ (HS.mu 0 rfl) underlying114 part_all) ?_
 refine WL.storeW HS 1 rfl rfl rfl rfl rfl rfl (oneL rfl) (by kernel_rfl) rfl (fun w14 HS => ?_)
 dsimp only [List.set] at HS
 refine dn_ hK13 ?_
 obtain rfl := os H
 exact rt1 Tryz.f181 rfl ⟨_, rfl, resv_box (HS.mu 1 rfl) underlying114 rfl (by kernel_rfl)⟩ hR_ ⟨rfl, HS.b⟩
def laws_toMergeS.b0 (l0 : List S225) (rec_ : Int → (List S114) → Option (Int × (List S114))) (k27 : Nat) (i15 : Int) (xs16 : List S114) : Option (Int × (List S114)) := (if i15 < (l0.length : Int) then (if 0 ≤ i15 ∧ i15 < (l0.length : Int) then ((laws_toMerge.g k27 (l0.getD i15.toNat o225)).bind fun t37 => (if 0 ≤ i15 ∧ i15 < ((xs16.length : Nat) : Int) then (rec_ (wrap64 (i15 + 1)) (xs16.set i15.toNat t37)) else none)) else none) else (some (i15, xs16)))
def laws_toMergeS.l0 (l0 : List S225) : Nat → Int → (List S114) → Option (Int × (List S114))
 | 0, _, _ => none
 | k + 1, i15, xs16 => laws_toMergeS.b0 l0 (laws_toMergeS.l0 l0 k) k i15 xs16
def laws_toMergeS.g (k : Nat) (l0 : List S225) : Option (List S114) := (if 0 ≤ (l0.length : Int) ∧ (l0.length : Int) < 4294967296 then ((laws_toMergeS.l0 l0 k 0 (List.replicate (l0.length : Int).toNat o114)).bind (fun oc25 => (some oc25.2))) else none)
theorem laws_toMergeS.runs (k : Nat) (A0 : Option Addr) (c0 : Nat) (l0 : List S225) (r : List S114) (w : World) (hr0 : k225.C w A0 l0.length l0) (hc0 : l0.length ≤ c0) (H : laws_toMergeS.g k l0 = some r) :
   Calls prog 98 #[.slice A0 l0.length c0] w fun e w' => ∃ (v0_ : Value) (bl0_ : List Nat), e = .returned (v0_) ∧ Owns w' w.heap.size [valM (Dk.slice 114 dq114) r [v0_] bl0_] ∧ Below w.heap.size w w' := by
 unfold laws_toMergeS.g at H
 have HS : St (fun _ => True) w w [] [(cF k225 A0 l0)] [] := St.start (foot_cons (foot_C h225 hr0) foot_nil)
 refine cw_ (n := 23) func98 fun R_ hR_ => ?_
 refine sr_ fun _ hK1 => ?_
 refine ad_ hK1 ?_
 refine sr_ fun _ hK2 => ?_
 refine mv_ ?_
 refine ln_ underlying42 ?_
 obtain ⟨⟨q3, q4⟩, H⟩ := if_some H
 refine WL.make k114 HS rfl rfl (by decide) rfl rfl rfl (.agg #[vi 0, vi 0]) 16 o114 underlying25 (by kernel_rfl) rfl (by decide) (by decide) (fun _ => (k114_mk _ o114)) q3 (by omega) (fun v5 w6 I7 hI8 HS => ?_)
 replace HS := HS.deriveN (p := (rF k114 (List.replicate (l0.length : Int).toNat o114) I7)) (fun W_ hN_ => hI8 W_)
 refine ad_ hK2 ?_
 refine WC.seq fun K9 hK9 => ?_
 refine sr_ fun _ hK10 => ?_
 refine ad_ hK10 ?_
 refine WC.block ?_
 obtain ⟨G11, hG12, oc13, H, Ho14⟩ := open_G H
 let J19 := fun (i15 : Int) (xs16 : List S114) v17 I18 (E_ : Env) (W_ : World) => E_ = [(0, .slice A0 l0.length c0), (3, v17), (4, vi i15)] ∧ St (fun _ => True) w W_ [rowM w.heap.size 114 2 v17 xs16.length I18] [(cF k225 A0 l0)] [(rF k114 xs16 I18)]
 have X20 : ∀ E_ W_, (∃ i15 xs16 v17 I18, G11 (i15, xs16) = some r ∧ J19 i15 xs16 v17 I18 E_ W_) → ∀ a, Fits a 23 E_ → K9 a W_ := by
   rintro E_ w21 ⟨i15, xs16, v17, I18, H, rfl, HS⟩
   rw [hG12] at H
   (try dsimp only at H)
   refine hK9 _ _ ?_
   refine sr_ fun _ hK22 => ?_
   refine mv_ ?_
   refine ad_ hK22 ?_
   refine WC.ret ?_
   obtain ⟨A23, c24, rfl⟩ := row_slice (HS.mu 0 rfl)
   replace HS := HS.elsF (xs := xs16) (inner := I18) (dq114) (fun _ _ _ h_ => dq114_flat h_) (fun _ => (HS.getN 0 rfl))
   replace HS := HS.front 1 rfl
   dsimp only [List.eraseIdx] at HS
   replace HS := HS.seal rfl rfl
   obtain rfl := os H
   exact fin1 Tryz.f98 rfl rfl hR_ ⟨_, _, rfl, (St.owns HS), HS.b⟩
 clear hK9
 refine WC.loop (fun k_ E_ W_ => ∃ i15 xs16 v17 I18, (∃ o_, laws_toMergeS.l0 l0 k_ i15 xs16 = some o_ ∧ G11 o_ = some r) ∧ J19 i15 xs16 v17 I18 E_ W_) k ⟨0, (List.replicate (l0.length : Int).toNat o114), v5, I7, ⟨_, H, Ho14⟩, rfl, HS⟩ (sb rfl) ?_
 rintro k_ E_ w26 ⟨i15, xs16, v17, I18, ⟨oc13, H, Ho14⟩, rfl, HS⟩
 rcases k_ with _ | k27
 · exact no_ H
 replace H : laws_toMergeS.b0 l0 (laws_toMergeS.l0 l0 k27) k27 i15 xs16 = some oc13 := H
 unfold laws_toMergeS.b0 at H
 refine WC.seq fun _ hK28 => ?_
 refine sr_ fun _ hK29 => ?_
 refine mv_ ?_
 refine mv_ ?_
 refine ln_ underlying42 ?_
 refine b_ bin_lss ?_
 refine dn_ hK29 ?_
 rcases eti_ H with ⟨c30, H⟩ | ⟨c30, H⟩
 · refine wn_ (dF c30) (WC.exit ?_)
   obtain rfl := os H
   exact wv_ iq X20 ⟨i15, xs16, v17, I18, Ho14, rfl, HS⟩
 refine wy_ (dT c30) (WC.skip (via_ hK28 (WC.seq fun _ hK31 => ?_)))
 refine WC.block (rg_ (mv_ ?_))
 refine mv_ ?_
 refine mv_ ?_
 refine mv_ ?_
 obtain ⟨⟨q32, q33⟩, H⟩ := if_some H
 obtain ⟨ad34, rfl⟩ := C_open (HS.getO 0 rfl) (lenpos q32 q33)
 refine v_ (ia_ underlying42 2 q32 q33) ?_
 obtain ⟨e35, el36, HS⟩ := HS.elO 0 rfl (by decide) o225 i15 q32 q33
 refine v_ (Run.loadS (cs := [vi ((l0.getD i15.toNat o225).f0), vi ((l0.getD i15.toNat o225).f1)]) rfl rfl underlying225 rfl (by kernel_rfl) (cells_part (HS.getO 0 rfl).2 (part_cons (at225_0 (AtK.whole (HS.getO 0 rfl).1)).int (part_cons (at225_1 (AtK.whole (HS.getO 0 rfl).1)).int part_nil)))) ?_
 obtain ⟨t37, ha38, H⟩ := bind_some H
 refine cs_ HS func181 (laws_toMerge.runs k27 (l0.getD i15.toNat o225) t37 _  ha38) (fun w39 HS => ?_)
 clear ha38
 obtain ⟨⟨q40, q41⟩, H⟩ := if_some H
 obtain ⟨A42, c43, rfl⟩ := row_slice (HS.mu 0 rfl)
 obtain ⟨ad44, rfl⟩ := row_open (HS.mu 0 rfl) (lenpos q40 q41)
 refine v_ (ia_ underlying25 2 q40 q41) ?_
 have hk_ := mul_room q40 q41 2
 refine WL.putEl HS 0 rfl rfl rfl rfl rfl rfl [vi t37.f0, vi t37.f1] rfl (oneL rfl) (by kernel_rfl) (by first | omega | (rw [List.length_nil]; omega) | (simp; omega)) (fun w45 I46 hI47 HS => ?_)
 dsimp only [List.set] at HS
 clear hk_
 replace HS := HS.deriveN (p := (rF k114 (xs16.set i15.toNat t37) I46)) (fun W_ hN_ => reps_set hI47 hN_.1 (k114_mk _ t37) (toNat_lt q40 q41))
 replace HS := HS.rowN 0 rfl (show xs16.length = (xs16.set i15.toNat t37).length from (List.length_set ..).symm)
 dsimp only [List.set] at HS
 generalize hv49 : (Value.slice (some ad44) xs16.length c43) = v48 at HS ⊢
 refine dn_ hK31 (rg_ (mv_ ?_))
 refine b_ bin_add64 ?_
 refine as_ ?_
 refine WL.done ?_
 exact wr_ k27 iq ⟨(wrap64 (i15 + 1)), (xs16.set i15.toNat t37), v48, I46, ⟨_, H, Ho14⟩, rfl, (St.pk HS [1] [0] rfl rfl)⟩
def laws_toMatrix.g (k : Nat) (x0 : S44) : Option S30 := ((laws_toIntSS.g k x0.f1).bind fun t12 => ((laws_toIntSS.g k x0.f2).bind fun t23 => (some (⟨x0.f0, t12, t23, x0.f3, x0.f4⟩ : S30))))
theorem laws_toMatrix.runs (k : Nat) (x0 : S44) (A0_1 : Option Addr) (c0_1 : Nat) (A0_2 : Option Addr) (c0_2 : Nat) (r : S30) (w : World) (hr0_1 : kS3.C w A0_1 x0.f1.length x0.f1) (hc0_1 : x0.f1.length ≤ c0_1) (hr0_2 : kS3.C w A0_2 x0.f2.length x0.f2) (hc0_2 : x0.f2.length ≤ c0_2) (H : laws_toMatrix.g k x0 = some r) :
   Calls prog 101 #[.agg #[vi x0.f0, .slice A0_1 x0.f1.length c0_1, .slice A0_2 x0.f2.length c0_2, vi x0.f3, vi x0.f4]] w fun e w' => ∃ (v0_1_ : Value) (bl0_1_ : List Nat) (v0_2_ : Value) (bl0_2_ : List Nat), e = .returned (.agg #[vi r.f0, v0_1_, v0_2_, vi r.f3, vi r.f4]) ∧ Owns w' w.heap.size [valM (Dk.slice 28 (Dk.slice 3 (Dk.int .i64))) r.f1 [v0_1_] bl0_1_, valM (Dk.slice 28 (Dk.slice 3 (Dk.int .i64))) r.f2 [v0_2_] bl0_2_] ∧ Below w.heap.size w w' := by
 unfold laws_toMatrix.g at H
 have HS : St (fun _ => True) w w [] [(cF kS3 A0_1 x0.f1), (cF kS3 A0_2 x0.f2)] [] := St.start (foot_cons (foot_C (Kd.heap_slice _ (Kd.heap_int _)) hr0_1) (foot_cons (foot_C (Kd.heap_slice _ (Kd.heap_int _)) hr0_2) foot_nil))
 refine cw_ (n := 22) func101 fun R_ hR_ => ?_
 refine sr_ fun _ hK1 => ?_
 refine bo_ HS (fun b2 w3 hb2 HS => ?_)
 refine WL.alloc HS (v := .agg #[vi 0, sn, sn, vi 0, vi 0]) (cs := #[vi 0, sn, sn, vi 0, vi 0]) rfl rfl (by decide) rfl (by kernel_rfl) rfl (fun b4 w5 hb4 HS => ?_)
 refine dn_ hK1 (sr_ fun _ hK6 => ?_)
 refine WL.alloc HS (v := .agg #[vi 0, sn, sn, vi 0, vi 0]) (cs := #[vi 0, sn, sn, vi 0, vi 0]) rfl rfl (by decide) rfl (by kernel_rfl) rfl (fun b7 w8 hb7 HS => ?_)
 refine dn_ hK6 (sr_ fun _ hK9 => ?_)
 refine v_ (fa_ underlying44) ?_
 refine v_ (lb_ (HS.mu 2 rfl) underlying3 rfl) ?_
 refine v_ (fa_ underlying30) ?_
 refine WL.store HS 0 rfl rfl rfl rfl rfl rfl rfl (by kernel_rfl) (ble_ rfl) (cs' := #[vi x0.f0, sn, sn, vi 0, vi 0]) (by kernel_rfl) (fun w10 HS => ?_)
 dsimp only [List.set] at HS
 refine dn_ hK9 (sr_ fun _ hK11 => ?_)
 refine v_ (fa_ underlying44) ?_
 refine v_ (lb_ (HS.mu 2 rfl) underlying26 rfl) ?_
 obtain ⟨t12, ha13, H⟩ := bind_some H
 refine c_ func99 (laws_toIntSS.runs k A0_1 c0_1 x0.f1 t12 _ (HS.getO 0 rfl) hc0_1 ha13) ?_
 clear ha13
 rintro _ w14 ⟨v15, bl16, rfl, hO_, hb⟩
 replace HS := HS.got hb hO_
 dsimp only [List.cons_append, List.nil_append] at HS
 clear hO_
 obtain ⟨I17, bl18, HS⟩ := HS.unseal (sz := 1) rfl
 refine ⟨_, rfl, ?_⟩
 clear hb
 refine v_ (fa_ underlying30) ?_
 obtain ⟨A20, c21, rfl⟩ := row_slice (HS.mu 0 rfl)
 refine WL.store HS 2 rfl rfl rfl rfl rfl rfl rfl (by kernel_rfl) (ble_ rfl) (cs' := #[vi x0.f0, (.slice A20 t12.length c21), sn, vi 0, vi 0]) (by kernel_rfl) (fun w19 HS => ?_)
 dsimp only [List.set] at HS
 refine dn_ hK11 (sr_ fun _ hK22 => ?_)
 refine v_ (fa_ underlying44) ?_
 refine v_ (lb_ (HS.mu 4 rfl) underlying26 rfl) ?_
 obtain ⟨t23, ha24, H⟩ := bind_some H
 refine c_ func99 (laws_toIntSS.runs k A0_2 c0_2 x0.f2 t23 _ (HS.getO 1 rfl) hc0_2 ha24) ?_
 clear ha24
 rintro _ w25 ⟨v26, bl27, rfl, hO_, hb⟩
 replace HS := HS.got hb hO_
 dsimp only [List.cons_append, List.nil_append] at HS
 clear hO_
 obtain ⟨I28, bl29, HS⟩ := HS.unseal (sz := 1) rfl
 refine ⟨_, rfl, ?_⟩
 clear hb
 refine v_ (fa_ underlying30) ?_
 obtain ⟨A31, c32, rfl⟩ := row_slice (HS.mu 0 rfl)
 refine WL.store HS 4 rfl rfl rfl rfl rfl rfl rfl (by kernel_rfl) (ble_ rfl) (cs' := #[vi x0.f0, (.slice A20 t12.length c21), (.slice A31 t23.length c32), vi 0, vi 0]) (by kernel_rfl) (fun w30 HS => ?_)
 dsimp only [List.set] at HS
 refine dn_ hK22 (sr_ fun _ hK33 => ?_)
 refine v_ (fa_ underlying44) ?_
 refine v_ (lb_ (HS.mu 6 rfl) underlying3 rfl) ?_
 refine v_ (fa_ underlying30) ?_
 refine WL.store HS 4 rfl rfl rfl rfl rfl rfl rfl (by kernel_rfl) (ble_ rfl) (cs' := #[vi x0.f0, (.slice A20 t12.length c21), (.slice A31 t23.length c32), vi x0.f3, vi 0]) (by kernel_rfl) (fun w34 HS => ?_)
 dsimp only [List.set] at HS
 refine dn_ hK33 (sr_ fun _ hK35 => ?_)
 refine v_ (fa_ underlying44) ?_
 refine v_ (lb_ (HS.mu 6 rfl) underlying3 rfl) ?_
 refine v_ (fa_ underlying30) ?_
 refine WL.store HS 4 rfl rfl rfl rfl rfl rfl rfl (by kernel_rfl) (ble_ rfl) (cs' := #[vi x0.f0, (.slice A20 t12.length c21), (.slice A31 t23.length c32), vi x0.f3, vi x0.f4]) (by kernel_rfl) (fun w36 HS => ?_)
 dsimp only [List.set] at HS
 refine dn_ hK35 (sr_ fun _ hK37 => ?_)
 refine v_ (ls_ (HS.mu 4 rfl) underlying30 part_all) ?_
 refine WL.storeW HS 5 rfl rfl rfl rfl rfl rfl (oneL rfl) (by kernel_rfl) rfl (fun w38 HS => ?_)
 dsimp only [List.set] at HS
 refine dn_ hK37 (WC.ret ?_)
 replace HS := HS.front 3 rfl
 dsimp only [List.eraseIdx] at HS
 replace HS := HS.front 3 rfl
 dsimp only [List.eraseIdx] at HS
 replace HS := HS.seal rfl rfl
 replace HS := HS.front 2 rfl
 dsimp only [List.eraseIdx] at HS
 replace HS := HS.front 2 rfl
 dsimp only [List.eraseIdx] at HS
 replace HS := HS.seal rfl rfl
 obtain rfl := os H
 exact fin1 Tryz.f101 rfl ⟨_, rfl, resv_box (HS.mu 3 rfl) underlying30 rfl (by kernel_rfl)⟩ hR_ ⟨_, _, _, _, rfl, (St.owns (St.front (St.front (St.forget (St.forget (St.forget HS 4 rfl) 3 rfl) 2 rfl) 0 rfl) 1 rfl)), HS.b⟩
def laws_toTurns.g (k : Nat) (x0 : S45) : Option S32 := ((laws_toIntSS.g k x0.f0).bind fun t10 => ((laws_toIntSS.g k x0.f1).bind fun t21 => (some (⟨t10, t21⟩ : S32))))
theorem laws_toTurns.runs (k : Nat) (x0 : S45) (A0_0 : Option Addr) (c0_0 : Nat) (A0_1 : Option Addr) (c0_1 : Nat) (r : S32) (w : World) (hr0_0 : kS3.C w A0_0 x0.f0.length x0.f0) (hc0_0 : x0.f0.length ≤ c0_0) (hr0_1 : kS3.C w A0_1 x0.f1.length x0.f1) (hc0_1 : x0.f1.length ≤ c0_1) (H : laws_toTurns.g k x0 = some r) :
   Calls prog 102 #[.agg #[.slice A0_0 x0.f0.length c0_0, .slice A0_1 x0.f1.length c0_1]] w fun e w' => ∃ (v0_0_ : Value) (bl0_0_ : List Nat) (v0_1_ : Value) (bl0_1_ : List Nat), e = .returned (.agg #[v0_0_, v0_1_]) ∧ Owns w' w.heap.size [valM (Dk.slice 28 (Dk.slice 3 (Dk.int .i64))) r.f0 [v0_0_] bl0_0_, valM (Dk.slice 28 (Dk.slice 3 (Dk.int .i64))) r.f1 [v0_1_] bl0_1_] ∧ Below w.heap.size w w' := by
 unfold laws_toTurns.g at H
 have HS : St (fun _ => True) w w [] [(cF kS3 A0_0 x0.f0), (cF kS3 A0_1 x0.f1)] [] := St.start (foot_cons (foot_C (Kd.heap_slice _ (Kd.heap_int _)) hr0_0) (foot_cons (foot_C (Kd.heap_slice _ (Kd.heap_int _)) hr0_1) foot_nil))
 refine cw_ (n := 13) func102 fun R_ hR_ => ?_
 refine sr_ fun _ hK1 => ?_
 refine bo_ HS (fun b2 w3 hb2 HS => ?_)
 refine WL.alloc HS (v := .agg #[sn, sn]) (cs := #[sn, sn]) rfl rfl (by decide) rfl (by kernel_rfl) rfl (fun b4 w5 hb4 HS => ?_)
 refine dn_ hK1 (sr_ fun _ hK6 => ?_)
 refine WL.alloc HS (v := .agg #[sn, sn]) (cs := #[sn, sn]) rfl rfl (by decide) rfl (by kernel_rfl) rfl (fun b7 w8 hb7 HS => ?_)
 refine dn_ hK6 (sr_ fun _ hK9 => ?_)
 refine v_ (fa_ underlying45) ?_
 refine v_ (lb_ (HS.mu 2 rfl) underlying26 rfl) ?_
 obtain ⟨t10, ha11, H⟩ := bind_some H
 refine c_ func99 (laws_toIntSS.runs k A0_0 c0_0 x0.f0 t10 _ (HS.getO 0 rfl) hc0_0 ha11) ?_
 clear ha11
 rintro _ w12 ⟨v13, bl14, rfl, hO_, hb⟩
 replace HS := HS.got hb hO_
 dsimp only [List.cons_append, List.nil_append] at HS
 clear hO_
 obtain ⟨I15, bl16, HS⟩ := HS.unseal (sz := 1) rfl
 refine ⟨_, rfl, ?_⟩
 clear hb
 refine v_ (fa_ underlying32) ?_
 obtain ⟨A18, c19, rfl⟩ := row_slice (HS.mu 0 rfl)
 refine WL.store HS 2 rfl rfl rfl rfl rfl rfl rfl (by kernel_rfl) (ble_ rfl) (cs' := #[(.slice A18 t10.length c19), sn]) (by kernel_rfl) (fun w17 HS => ?_)
 dsimp only [List.set] at HS
 refine dn_ hK9 (sr_ fun _ hK20 => ?_)
 refine v_ (fa_ underlying45) ?_
 refine v_ (lb_ (HS.mu 4 rfl) underlying26 rfl) ?_
 obtain ⟨t21, ha22, H⟩ := bind_some H
 refine c_ func99 (laws_toIntSS.runs k A0_1 c0_1 x0.f1 t21 _ (HS.getO 1 rfl) hc0_1 ha22) ?_
 clear ha22
 rintro _ w23 ⟨v24, bl25, rfl, hO_, hb⟩
 replace HS := HS.got hb hO_
 dsimp only [List.cons_append, List.nil_append] at HS
 clear hO_
 obtain ⟨I26, bl27, HS⟩ := HS.unseal (sz := 1) rfl
 refine ⟨_, rfl, ?_⟩
 clear hb
 refine v_ (fa_ underlying32) ?_
 obtain ⟨A29, c30, rfl⟩ := row_slice (HS.mu 0 rfl)
 refine WL.store HS 4 rfl rfl rfl rfl rfl rfl rfl (by kernel_rfl) (ble_ rfl) (cs' := #[(.slice A18 t10.length c19), (.slice A29 t21.length c30)]) (by kernel_rfl) (fun w28 HS => ?_)
 dsimp only [List.set] at HS
 refine dn_ hK20 (sr_ fun _ hK31 => ?_)
 refine v_ (ls_ (HS.mu 4 rfl) underlying32 part_all) ?_
 refine WL.storeW HS 5 rfl rfl rfl rfl rfl rfl (oneL rfl) (by kernel_rfl) rfl (fun w32 HS => ?_)
 dsimp only [List.set] at HS
 refine dn_ hK31 (WC.ret ?_)
 replace HS := HS.front 3 rfl
 dsimp only [List.eraseIdx] at HS
 replace HS := HS.front 3 rfl
 dsimp only [List.eraseIdx] at HS
 replace HS := HS.seal rfl rfl
 replace HS := HS.front 2 rfl
 dsimp only [List.eraseIdx] at HS
 replace HS := HS.front 2 rfl
 dsimp only [List.eraseIdx] at HS
 replace HS := HS.seal rfl rfl
 obtain rfl := os H
 exact fin1 Tryz.f102 rfl ⟨_, rfl, resv_box (HS.mu 3 rfl) underlying32 rfl (by kernel_rfl)⟩ hR_ ⟨_, _, _, _, rfl, (St.owns (St.front (St.front (St.forget (St.forget (St.forget HS 4 rfl) 3 rfl) 2 rfl) 0 rfl) 1 rfl)), HS.b⟩
def laws_eqMerge.g (k : Nat) (x0 : S114) (x1 : S114) : Option Bool := (if x0.f0 = x1.f0 then (if x0.f1 = x1.f1 then (some true) else (some false)) else (some false))
theorem laws_eqMerge.runs (k : Nat) (x0 : S114) (x1 : S114) (r : Bool) (w : World) (H : laws_eqMerge.g k x0 x1 = some r) :
   Calls prog 165 #[.agg #[vi x0.f0, vi x0.f1], .agg #[vi x1.f0, vi x1.f1]] w fun e w' => e = .returned (.bool r) ∧ Below w.heap.size w w' := by
 unfold laws_eqMerge.g at H
 have HS : St (fun _ => True) w w [] [] [] := St.start foot_nil
 refine cw_ (n := 15) func165 fun R_ hR_ => ?_
 refine sr_ fun _ hK1 => ?_
 refine bo_ HS (fun b2 w3 hb2 HS => ?_)
 refine bo_ HS (fun b4 w5 hb4 HS => ?_)
 refine ad_ hK1 ?_
 refine WC.seq fun _ hK6 => ?_
 refine sr_ fun _ hK7 => ?_
 refine v_ (fa_ underlying114) ?_
 refine v_ (lb_ (HS.mu 1 rfl) underlying3 rfl) ?_
 refine v_ (fa_ underlying114) ?_
 refine v_ (lb_ (HS.mu 0 rfl) underlying3 rfl) ?_
 refine b_ bin_neq ?_
 refine dn_ hK7 ?_
 rcases eti_ H with ⟨c8, H⟩ | ⟨c8, H⟩
 · refine wy_ (qT c8) (sr_ fun _ hK14 => ?_)
   refine ad_ hK14 ?_
   obtain rfl := os H
   exact rt1 Tryz.f165 rfl rfl hR_ ⟨rfl, HS.b⟩
 refine wn_ (qF c8) (WC.skip (via_ hK6 (WC.seq fun _ hK9 => ?_)))
 refine sr_ fun _ hK10 => ?_
 refine v_ (fa_ underlying114) ?_
 refine v_ (lb_ (HS.mu 1 rfl) underlying3 rfl) ?_
 refine v_ (fa_ underlying114) ?_
 refine v_ (lb_ (HS.mu 0 rfl) underlying3 rfl) ?_
 refine b_ bin_neq ?_
 refine dn_ hK10 ?_
 rcases eti_ H with ⟨c11, H⟩ | ⟨c11, H⟩
 · refine wy_ (qT c11) (sr_ fun _ hK13 => ?_)
   refine ad_ hK13 ?_
   obtain rfl := os H
   exact rt1 Tryz.f165 rfl rfl hR_ ⟨rfl, HS.b⟩
 refine wn_ (qF c11) (WC.skip (via_ hK9 (sr_ fun _ hK12 => ?_)))
 refine ad_ hK12 ?_
 obtain rfl := os H
 exact rt1 Tryz.f165 rfl rfl hR_ ⟨rfl, HS.b⟩
def laws_eqMergeS.b0 (l0 : List S114) (l1 : List S114) (rec_ : Int → Option (Bool ⊕ Int)) (k18 : Nat) (i11 : Int) : Option (Bool ⊕ Int) := (if i11 < (l0.length : Int) then (if 0 ≤ i11 ∧ i11 < (l0.length : Int) then (if 0 ≤ i11 ∧ i11 < (l1.length : Int) then ((laws_eqMerge.g k18 (l0.getD i11.toNat o114) (l1.getD i11.toNat o114)).bind fun t35 => (if t35 = true then (rec_ (wrap64 (i11 + 1))) else (some (Sum.inl false)))) else none) else none) else (some (Sum.inr i11)))
def laws_eqMergeS.l0 (l0 : List S114) (l1 : List S114) : Nat → Int → Option (Bool ⊕ Int)
 | 0, _ => none
 | k + 1, i11 => laws_eqMergeS.b0 l0 l1 (laws_eqMergeS.l0 l0 l1 k) k i11
def laws_eqMergeS.g (k : Nat) (l0 : List S114) (l1 : List S114) : Option Bool := (if (l0.length : Int) = (l1.length : Int) then ((laws_eqMergeS.l0 l0 l1 k 0).bind (fun oc16 => match oc16 with | .inl r_ => some r_ | .inr i11 => (some true))) else (some false))
theorem laws_eqMergeS.runs (k : Nat) (A0 : Option Addr) (c0 : Nat) (l0 : List S114) (A1 : Option Addr) (c1 : Nat) (l1 : List S114) (r : Bool) (w : World) (hr0 : k114.C w A0 l0.length l0) (hc0 : l0.length ≤ c0) (hr1 : k114.C w A1 l1.length l1) (hc1 : l1.length ≤ c1) (H : laws_eqMergeS.g k l0 l1 = some r) :
   Calls prog 74 #[.slice A0 l0.length c0, .slice A1 l1.length c1] w fun e w' => e = .returned (.bool r) ∧ Below w.heap.size w w' := by
 unfold laws_eqMergeS.g at H
 have HS : St (fun _ => True) w w [] [(cF k114 A0 l0), (cF k114 A1 l1)] [] := St.start (foot_cons (foot_C h114 hr0) (foot_cons (foot_C h114 hr1) foot_nil))
 refine cw_ (n := 27) func74 fun R_ hR_ => ?_
 refine sr_ fun _ hK1 => ?_
 refine ad_ hK1 ?_
 refine WC.seq fun _ hK2 => ?_
 refine sr_ fun _ hK3 => ?_
 refine mv_ ?_
 refine ln_ underlying25 ?_
 refine mv_ ?_
 refine ln_ underlying25 ?_
 refine b_ bin_neq ?_
 refine dn_ hK3 ?_
 rcases eti_ H with ⟨c4, H⟩ | ⟨c4, H⟩
 · refine wy_ (qT c4) (sr_ fun _ hK40 => ?_)
   refine ad_ hK40 ?_
   obtain rfl := os H
   exact rt1 Tryz.f74 rfl rfl hR_ ⟨rfl, HS.b⟩
 refine wn_ (qF c4) (WC.skip (via_ hK2 (WC.seq fun K5 hK5 => ?_)))
 refine sr_ fun _ hK6 => ?_
 refine ad_ hK6 ?_
 refine WC.block ?_
 obtain ⟨G7, hG8, oc9, H, Ho10⟩ := open_G H
 let J12 := fun (i11 : Int) (E_ : Env) (W_ : World) => E_ = [(0, .slice A0 l0.length c0), (1, .slice A1 l1.length c1), (5, vi i11)] ∧ St (fun _ => True) w W_ [] [(cF k114 A0 l0), (cF k114 A1 l1)] []
 have X13 : ∀ E_ W_, (∃ i11, G7 (Sum.inr i11) = some r ∧ J12 i11 E_ W_) → ∀ a, Fits a 27 E_ → K5 a W_ := by
   rintro E_ w14 ⟨i11, H, rfl, HS⟩
   rw [hG8] at H
   (try dsimp only at H)
   refine hK5 _ _ ?_
   refine sr_ fun _ hK15 => ?_
   refine ad_ hK15 ?_
   obtain rfl := os H
   exact rt1 Tryz.f74 rfl rfl hR_ ⟨rfl, HS.b⟩
 clear hK5
 refine WC.loop (fun k_ E_ W_ => ∃ i11, (∃ o_, laws_eqMergeS.l0 l0 l1 k_ i11 = some o_ ∧ G7 o_ = some r) ∧ J12 i11 E_ W_) k ⟨0, ⟨_, H, Ho10⟩, rfl, HS⟩ (sb rfl) ?_
 rintro k_ E_ w17 ⟨i11, ⟨oc9, H, Ho10⟩, rfl, HS⟩
 rcases k_ with _ | k18
 · exact no_ H
 replace H : laws_eqMergeS.b0 l0 l1 (laws_eqMergeS.l0 l0 l1 k18) k18 i11 = some oc9 := H
 unfold laws_eqMergeS.b0 at H
 refine WC.seq fun _ hK19 => ?_
 refine sr_ fun _ hK20 => ?_
 refine mv_ ?_
 refine mv_ ?_
 refine ln_ underlying25 ?_
 refine b_ bin_lss ?_
 refine dn_ hK20 ?_
 rcases eti_ H with ⟨c21, H⟩ | ⟨c21, H⟩
 · refine wn_ (dF c21) (WC.exit ?_)
   obtain rfl := os H
   exact wv_ iq X13 ⟨i11, Ho10, rfl, HS⟩
 refine wy_ (dT c21) (WC.skip (via_ hK19 (WC.seq fun _ hK22 => ?_)))
 refine WC.block (WC.seq fun _ hK23 => ?_)
 refine WC.drawS HS [] rfl rfl (fun w24 HS => ?_)
 have HB := Below.refl w24.heap.size w24
 have HSW := HS
 refine dm_ 0 ?_
 refine dm_ 1 ?_
 obtain ⟨⟨q25, q26⟩, H⟩ := if_some H
 obtain ⟨ad27, rfl⟩ := C_open (HS.getO 0 rfl) (lenpos q25 q26)
 refine di_ 2 underlying25 2 q25 q26 ?_
 refine dm_ 4 ?_
 refine dm_ 5 ?_
 obtain ⟨⟨q28, q29⟩, H⟩ := if_some H
 obtain ⟨ad30, rfl⟩ := C_open (HS.getO 1 rfl) (lenpos q28 q29)
 refine di_ 6 underlying25 2 q28 q29 ?_
 obtain ⟨e31, el32, HS⟩ := HS.elO 0 rfl (by decide) o114 i11 q25 q26
 replace HSW := HS
 refine dt_ 3 (Below.refl _ _) (fun w_ hw_ => Run.loadS (cs := [vi ((l0.getD i11.toNat o114).f0), vi ((l0.getD i11.toNat o114).f1)]) rfl rfl underlying114 rfl (by kernel_rfl) (cells_part ((HS.below hw_).getO 0 rfl).2 (part_cons (at114_0 (AtK.whole ((HS.below hw_).getO 0 rfl).1)).int (part_cons (at114_1 (AtK.whole ((HS.below hw_).getO 0 rfl).1)).int part_nil)))) ?_
 obtain ⟨e33, el34, HS⟩ := HS.elO 2 rfl (by decide) o114 i11 q28 q29
 replace HSW := HS
 refine dt_ 7 (Below.refl _ _) (fun w_ hw_ => Run.loadS (cs := [vi ((l1.getD i11.toNat o114).f0), vi ((l1.getD i11.toNat o114).f1)]) rfl rfl underlying114 rfl (by kernel_rfl) (cells_part ((HS.below hw_).getO 0 rfl).2 (part_cons (at114_0 (AtK.whole ((HS.below hw_).getO 0 rfl).1)).int (part_cons (at114_1 (AtK.whole ((HS.below hw_).getO 0 rfl).1)).int part_nil)))) ?_
 obtain ⟨t35, ha36, H⟩ := bind_some H
 refine dcs_ HS HB 8 (w_none rfl) func165 (laws_eqMerge.runs k18 (l0.getD i11.toNat o114) (l1.getD i11.toNat o114) t35 _  ha36) (fun w37 HS HB => ?_)
 clear ha36
 refine dp_ 9 (fun _ => Run.not rfl rfl) ?_
 refine dd_ ?_
 clear HB HSW
 refine via_ hK23 ?_
 rcases ite_ H with ⟨c38, H⟩ | ⟨c38, H⟩
 · refine wn_ (nB c38) (WC.skip (via_ hK22 (rg_ (mv_ ?_))))
   refine b_ bin_add64 ?_
   refine as_ ?_
   refine WL.done ?_
   exact wr_ k18 iq ⟨(wrap64 (i11 + 1)), ⟨_, H, Ho10⟩, rfl, (St.pk HS [2, 3] [] rfl rfl)⟩
 refine wy_ (nB (bF c38)) (sr_ fun _ hK39 => ?_)
 refine ad_ hK39 ?_
 refine WC.ret ?_
 obtain rfl := os H
 rw [hG8] at Ho10
 replace H : some _ = some _ := Ho10
 obtain rfl := os H
 exact fin1 Tryz.f74 rfl rfl hR_ ⟨rfl, HS.b⟩
def laws_eqMatrix.g (k : Nat) (x0 : S30) (x1 : S30) : Option Bool := (if x0.f0 = x1.f0 then ((laws_eqIntSS.g k x0.f1 x1.f1).bind fun t11 => (if t11 = true then ((laws_eqIntSS.g k x0.f2 x1.f2).bind fun t17 => (if t17 = true then (if x0.f3 = x1.f3 then (if x0.f4 = x1.f4 then (some true) else (some false)) else (some false)) else (some false))) else (some false))) else (some false))
theorem laws_eqMatrix.runs (k : Nat) (x0 : S30) (A0_1 : Option Addr) (c0_1 : Nat) (A0_2 : Option Addr) (c0_2 : Nat) (x1 : S30) (A1_1 : Option Addr) (c1_1 : Nat) (A1_2 : Option Addr) (c1_2 : Nat) (r : Bool) (w : World) (hr0_1 : kS3.C w A0_1 x0.f1.length x0.f1) (hc0_1 : x0.f1.length ≤ c0_1) (hr0_2 : kS3.C w A0_2 x0.f2.length x0.f2) (hc0_2 : x0.f2.length ≤ c0_2) (hr1_1 : kS3.C w A1_1 x1.f1.length x1.f1) (hc1_1 : x1.f1.length ≤ c1_1) (hr1_2 : kS3.C w A1_2 x1.f2.length x1.f2) (hc1_2 : x1.f2.length ≤ c1_2) (H : laws_eqMatrix.g k x0 x1 = some r) :
   Calls prog 77 #[.agg #[vi x0.f0, .slice A0_1 x0.f1.length c0_1, .slice A0_2 x0.f2.length c0_2, vi x0.f3, vi x0.f4], .agg #[vi x1.f0, .slice A1_1 x1.f1.length c1_1, .slice A1_2 x1.f2.length c1_2, vi x1.f3, vi x1.f4]] w fun e w' => e = .returned (.bool r) ∧ Below w.heap.size w w' := by
 unfold laws_eqMatrix.g at H
 have HS : St (fun _ => True) w w [] [(cF kS3 A0_1 x0.f1), (cF kS3 A0_2 x0.f2), (cF kS3 A1_1 x1.f1), (cF kS3 A1_2 x1.f2)] [] := St.start (foot_cons (foot_C (Kd.heap_slice _ (Kd.heap_int _)) hr0_1) (foot_cons (foot_C (Kd.heap_slice _ (Kd.heap_int _)) hr0_2) (foot_cons (foot_C (Kd.heap_slice _ (Kd.heap_int _)) hr1_1) (foot_cons (foot_C (Kd.heap_slice _ (Kd.heap_int _)) hr1_2) foot_nil))))
 refine cw_ (n := 32) func77 fun R_ hR_ => ?_
 refine sr_ fun _ hK1 => ?_
 refine bo_ HS (fun b2 w3 hb2 HS => ?_)
 refine bo_ HS (fun b4 w5 hb4 HS => ?_)
 refine ad_ hK1 ?_
 refine WC.seq fun _ hK6 => ?_
 refine sr_ fun _ hK7 => ?_
 refine v_ (fa_ underlying30) ?_
 refine v_ (lb_ (HS.mu 1 rfl) underlying3 rfl) ?_
 refine v_ (fa_ underlying30) ?_
 refine v_ (lb_ (HS.mu 0 rfl) underlying3 rfl) ?_
 refine b_ bin_neq ?_
 refine dn_ hK7 ?_
 rcases eti_ H with ⟨c8, H⟩ | ⟨c8, H⟩
 · refine wy_ (qT c8) (sr_ fun _ hK32 => ?_)
   refine ad_ hK32 ?_
   obtain rfl := os H
   exact rt1 Tryz.f77 rfl rfl hR_ ⟨rfl, HS.b⟩
 refine wn_ (qF c8) (WC.skip (via_ hK6 (WC.seq fun _ hK9 => ?_)))
 refine sr_ fun _ hK10 => ?_
 refine v_ (fa_ underlying30) ?_
 refine v_ (lb_ (HS.mu 1 rfl) underlying26 rfl) ?_
 refine v_ (fa_ underlying30) ?_
 refine v_ (lb_ (HS.mu 0 rfl) underlying26 rfl) ?_
 obtain ⟨t11, ha12, H⟩ := bind_some H
 refine cs_ HS func75 (laws_eqIntSS.runs k A0_1 c0_1 x0.f1 A1_1 c1_1 x1.f1 t11 _ (HS.getO 0 rfl) hc0_1 (HS.getO 2 rfl) hc1_1 ha12) (fun w13 HS => ?_)
 clear ha12
 refine nt_ ?_
 refine dn_ hK10 ?_
 rcases eti_ H with ⟨c14, H⟩ | ⟨c14, H⟩
 · refine wy_ (nB (bF c14)) (sr_ fun _ hK31 => ?_)
   refine ad_ hK31 ?_
   obtain rfl := os H
   exact rt1 Tryz.f77 rfl rfl hR_ ⟨rfl, HS.b⟩
 refine wn_ (nB c14) (WC.skip (via_ hK9 (WC.seq fun _ hK15 => ?_)))
 refine sr_ fun _ hK16 => ?_
 refine v_ (fa_ underlying30) ?_
 refine v_ (lb_ (HS.mu 1 rfl) underlying26 rfl) ?_
 refine v_ (fa_ underlying30) ?_
 refine v_ (lb_ (HS.mu 0 rfl) underlying26 rfl) ?_
 obtain ⟨t17, ha18, H⟩ := bind_some H
 refine cs_ HS func75 (laws_eqIntSS.runs k A0_2 c0_2 x0.f2 A1_2 c1_2 x1.f2 t17 _ (HS.getO 1 rfl) hc0_2 (HS.getO 3 rfl) hc1_2 ha18) (fun w19 HS => ?_)
 clear ha18
 refine nt_ ?_
 refine dn_ hK16 ?_
 rcases eti_ H with ⟨c20, H⟩ | ⟨c20, H⟩
 · refine wy_ (nB (bF c20)) (sr_ fun _ hK30 => ?_)
   refine ad_ hK30 ?_
   obtain rfl := os H
   exact rt1 Tryz.f77 rfl rfl hR_ ⟨rfl, HS.b⟩
 refine wn_ (nB c20) (WC.skip (via_ hK15 (WC.seq fun _ hK21 => ?_)))
 refine sr_ fun _ hK22 => ?_
 refine v_ (fa_ underlying30) ?_
 refine v_ (lb_ (HS.mu 1 rfl) underlying3 rfl) ?_
 refine v_ (fa_ underlying30) ?_
 refine v_ (lb_ (HS.mu 0 rfl) underlying3 rfl) ?_
 refine b_ bin_neq ?_
 refine dn_ hK22 ?_
 rcases eti_ H with ⟨c23, H⟩ | ⟨c23, H⟩
 · refine wy_ (qT c23) (sr_ fun _ hK29 => ?_)
   refine ad_ hK29 ?_
   obtain rfl := os H
   exact rt1 Tryz.f77 rfl rfl hR_ ⟨rfl, HS.b⟩
 refine wn_ (qF c23) (WC.skip (via_ hK21 (WC.seq fun _ hK24 => ?_)))
 refine sr_ fun _ hK25 => ?_
 refine v_ (fa_ underlying30) ?_
 refine v_ (lb_ (HS.mu 1 rfl) underlying3 rfl) ?_
 refine v_ (fa_ underlying30) ?_
 refine v_ (lb_ (HS.mu 0 rfl) underlying3 rfl) ?_
 refine b_ bin_neq ?_
 refine dn_ hK25 ?_
 rcases eti_ H with ⟨c26, H⟩ | ⟨c26, H⟩
 · refine wy_ (qT c26) (sr_ fun _ hK28 => ?_)
   refine ad_ hK28 ?_
   obtain rfl := os H
   exact rt1 Tryz.f77 rfl rfl hR_ ⟨rfl, HS.b⟩
 refine wn_ (qF c26) (WC.skip (via_ hK24 (sr_ fun _ hK27 => ?_)))
 refine ad_ hK27 ?_
 obtain rfl := os H
 exact rt1 Tryz.f77 rfl rfl hR_ ⟨rfl, HS.b⟩
def laws_eqTurns.g (k : Nat) (x0 : S32) (x1 : S32) : Option Bool := ((laws_eqIntSS.g k x0.f0 x1.f0).bind fun t8 => (if t8 = true then ((laws_eqIntSS.g k x0.f1 x1.f1).bind fun t14 => (if t14 = true then (some true) else (some false))) else (some false)))
theorem laws_eqTurns.runs (k : Nat) (x0 : S32) (A0_0 : Option Addr) (c0_0 : Nat) (A0_1 : Option Addr) (c0_1 : Nat) (x1 : S32) (A1_0 : Option Addr) (c1_0 : Nat) (A1_1 : Option Addr) (c1_1 : Nat) (r : Bool) (w : World) (hr0_0 : kS3.C w A0_0 x0.f0.length x0.f0) (hc0_0 : x0.f0.length ≤ c0_0) (hr0_1 : kS3.C w A0_1 x0.f1.length x0.f1) (hc0_1 : x0.f1.length ≤ c0_1) (hr1_0 : kS3.C w A1_0 x1.f0.length x1.f0) (hc1_0 : x1.f0.length ≤ c1_0) (hr1_1 : kS3.C w A1_1 x1.f1.length x1.f1) (hc1_1 : x1.f1.length ≤ c1_1) (H : laws_eqTurns.g k x0 x1 = some r) :
   Calls prog 78 #[.agg #[.slice A0_0 x0.f0.length c0_0, .slice A0_1 x0.f1.length c0_1], .agg #[.slice A1_0 x1.f0.length c1_0, .slice A1_1 x1.f1.length c1_1]] w fun e w' => e = .returned (.bool r) ∧ Below w.heap.size w w' := by
 unfold laws_eqTurns.g at H
 have HS : St (fun _ => True) w w [] [(cF kS3 A0_0 x0.f0), (cF kS3 A0_1 x0.f1), (cF kS3 A1_0 x1.f0), (cF kS3 A1_1 x1.f1)] [] := St.start (foot_cons (foot_C (Kd.heap_slice _ (Kd.heap_int _)) hr0_0) (foot_cons (foot_C (Kd.heap_slice _ (Kd.heap_int _)) hr0_1) (foot_cons (foot_C (Kd.heap_slice _ (Kd.heap_int _)) hr1_0) (foot_cons (foot_C (Kd.heap_slice _ (Kd.heap_int _)) hr1_1) foot_nil))))
 refine cw_ (n := 17) func78 fun R_ hR_ => ?_
 refine sr_ fun _ hK1 => ?_
 refine bo_ HS (fun b2 w3 hb2 HS => ?_)
 refine bo_ HS (fun b4 w5 hb4 HS => ?_)
 refine ad_ hK1 ?_
 refine WC.seq fun _ hK6 => ?_
 refine sr_ fun _ hK7 => ?_
 refine v_ (fa_ underlying32) ?_
 refine v_ (lb_ (HS.mu 1 rfl) underlying26 rfl) ?_
 refine v_ (fa_ underlying32) ?_
 refine v_ (lb_ (HS.mu 0 rfl) underlying26 rfl) ?_
 obtain ⟨t8, ha9, H⟩ := bind_some H
 refine cs_ HS func75 (laws_eqIntSS.runs k A0_0 c0_0 x0.f0 A1_0 c1_0 x1.f0 t8 _ (HS.getO 0 rfl) hc0_0 (HS.getO 2 rfl) hc1_0 ha9) (fun w10 HS => ?_)
 clear ha9
 refine nt_ ?_
 refine dn_ hK7 ?_
 rcases eti_ H with ⟨c11, H⟩ | ⟨c11, H⟩
 · refine wy_ (nB (bF c11)) (sr_ fun _ hK20 => ?_)
   refine ad_ hK20 ?_
   obtain rfl := os H
   exact rt1 Tryz.f78 rfl rfl hR_ ⟨rfl, HS.b⟩
 refine wn_ (nB c11) (WC.skip (via_ hK6 (WC.seq fun _ hK12 => ?_)))
 refine sr_ fun _ hK13 => ?_
 refine v_ (fa_ underlying32) ?_
 refine v_ (lb_ (HS.mu 1 rfl) underlying26 rfl) ?_
 refine v_ (fa_ underlying32) ?_
 refine v_ (lb_ (HS.mu 0 rfl) underlying26 rfl) ?_
 obtain ⟨t14, ha15, H⟩ := bind_some H
 refine cs_ HS func75 (laws_eqIntSS.runs k A0_1 c0_1 x0.f1 A1_1 c1_1 x1.f1 t14 _ (HS.getO 1 rfl) hc0_1 (HS.getO 3 rfl) hc1_1 ha15) (fun w16 HS => ?_)
 clear ha15
 refine nt_ ?_
 refine dn_ hK13 ?_
 rcases eti_ H with ⟨c17, H⟩ | ⟨c17, H⟩
 · refine wy_ (nB (bF c17)) (sr_ fun _ hK19 => ?_)
   refine ad_ hK19 ?_
   obtain rfl := os H
   exact rt1 Tryz.f78 rfl rfl hR_ ⟨rfl, HS.b⟩
 refine wn_ (nB c17) (WC.skip (via_ hK12 (sr_ fun _ hK18 => ?_)))
 refine ad_ hK18 ?_
 obtain rfl := os H
 exact rt1 Tryz.f78 rfl rfl hR_ ⟨rfl, HS.b⟩
def spec_l10Matrix.g (k : Nat) (x0 : S30) (a1 : Int) (a2 : Int) : Option Bool := ((spec_MatrixOk.g k (⟨x0.f0, x0.f1, x0.f2, x0.f3, x0.f4⟩ : S30)).bind fun t5 => (if t5 = true then (if x0.f0 = a1 then (if (x0.f1.length : Int) = a2 then ((spec_l10Worst.g k (⟨x0.f0, x0.f1, x0.f2, x0.f3, x0.f4⟩ : S30)).bind fun t11 => (some (decide (t11 ≤ 600000)))) else (some false)) else (some false)) else (some false)))
theorem spec_l10Matrix.runs (k : Nat) (x0 : S30) (A0_1 : Option Addr) (c0_1 : Nat) (A0_2 : Option Addr) (c0_2 : Nat) (a1 : Int) (a2 : Int) (r : Bool) (w : World) (hr0_1 : kS3.C w A0_1 x0.f1.length x0.f1) (hc0_1 : x0.f1.length ≤ c0_1) (hr0_2 : kS3.C w A0_2 x0.f2.length x0.f2) (hc0_2 : x0.f2.length ≤ c0_2) (H : spec_l10Matrix.g k x0 a1 a2 = some r) :
   Calls prog 173 #[.agg #[vi x0.f0, .slice A0_1 x0.f1.length c0_1, .slice A0_2 x0.f2.length c0_2, vi x0.f3, vi x0.f4], vi a1, vi a2] w fun e w' => e = .returned (.bool r) ∧ Below w.heap.size w w' := by
 unfold spec_l10Matrix.g at H
 have HS : St (fun _ => True) w w [] [(cF kS3 A0_1 x0.f1), (cF kS3 A0_2 x0.f2)] [] := St.start (foot_cons (foot_C (Kd.heap_slice _ (Kd.heap_int _)) hr0_1) (foot_cons (foot_C (Kd.heap_slice _ (Kd.heap_int _)) hr0_2) foot_nil))
 refine cw_ (n := 27) func173 fun R_ hR_ => ?_
 refine sr_ fun _ hK1 => ?_
 refine bo_ HS (fun b2 w3 hb2 HS => ?_)
 refine ad_ hK1 ?_
 refine sr_ fun _ hK4 => ?_
 refine v_ (ls_ (HS.mu 0 rfl) underlying30 part_all) ?_
 obtain ⟨t5, ha6, H⟩ := bind_some H
 refine cs_ HS func232 (spec_MatrixOk.runs k (⟨x0.f0, x0.f1, x0.f2, x0.f3, x0.f4⟩ : S30) A0_1 c0_1 A0_2 c0_2 t5 _ (HS.getO 0 rfl) hc0_1 (HS.getO 1 rfl) hc0_2 ha6) (fun w7 HS => ?_)
 clear ha6
 refine mv_ ?_
 rcases eti_ H with ⟨c8, H⟩ | ⟨c8, H⟩
 · refine off_ (c' := false) (bF c8) ?_
   refine WL.know 9 (bF c8) ?_
   refine fast_ ?_
   refine via_ hK4 ?_
   obtain rfl := os H
   exact rt1 Tryz.f173 rfl rfl hR_ ⟨rfl, HS.b⟩
 refine on_ c8 ?_
 refine v_ (fa_ underlying30) ?_
 refine on_ c8 ?_
 refine v_ (lb_ (HS.mu 0 rfl) underlying3 rfl) ?_
 refine on_ c8 ?_
 refine mv_ ?_
 refine on_ c8 ?_
 refine b_ bin_eql ?_
 refine v_ (Run.pickT rfl rfl c8 rfl) ?_
 refine mv_ ?_
 rcases eti_ H with ⟨c9, H⟩ | ⟨c9, H⟩
 · refine off_ (c' := false) (eF c9) ?_
   refine WL.know 15 (eF c9) ?_
   refine fast_ ?_
   refine via_ hK4 ?_
   obtain rfl := os H
   exact rt1 Tryz.f173 rfl rfl hR_ ⟨rfl, HS.b⟩
 refine on_ (eT c9) (v_ (fa_ underlying30) ?_)
 refine on_ (eT c9) (v_ (lb_ (HS.mu 0 rfl) underlying26 rfl) ?_)
 refine on_ (eT c9) (ln_ underlying26 ?_)
 refine on_ (eT c9) (mv_ ?_)
 refine on_ (eT c9) (b_ bin_eql ?_)
 refine v_ (Run.pickT rfl rfl (eT c9) rfl) ?_
 refine mv_ ?_
 rcases eti_ H with ⟨c10, H⟩ | ⟨c10, H⟩
 · refine off_ (c' := false) (eF c10) ?_
   refine WL.know 22 (eF c10) ?_
   refine fast_ ?_
   refine via_ hK4 ?_
   obtain rfl := os H
   exact rt1 Tryz.f173 rfl rfl hR_ ⟨rfl, HS.b⟩
 refine on_ (eT c10) (v_ (ls_ (HS.mu 0 rfl) underlying30 part_all) ?_)
 refine on_ (eT c10) ?_
 obtain ⟨t11, ha12, H⟩ := bind_some H
 refine cs_ HS func233 (spec_l10Worst.runs k (⟨x0.f0, x0.f1, x0.f2, x0.f3, x0.f4⟩ : S30) A0_1 c0_1 A0_2 c0_2 t11 _ (HS.getO 0 rfl) hc0_1 (HS.getO 1 rfl) hc0_2 ha12) (fun w13 HS => ?_)
 clear ha12
 refine on_ (eT c10) (b_ bin_leq ?_)
 refine v_ (Run.pickT rfl rfl (eT c10) rfl) ?_
 refine ad_ hK4 ?_
 obtain rfl := os H
 exact rt1 Tryz.f173 rfl rfl hR_ ⟨rfl, HS.b⟩
def spec_LayerOk.g (k : Nat) (x0 : S118) (a1 : Int) : Option Bool := ((spec_l05Width.f a1).bind fun t10 => (if t10 = true then ((spec_l05Width.f (x0.f6.f1.length : Int)).bind fun t14 => (if t14 = true then ((spec_GainOk.g k x0.f0 a1).bind fun t22 => (if t22 = true then ((spec_GainOk.g k x0.f5 a1).bind fun t30 => (if t30 = true then ((spec_l10Matrix.g k x0.f1 a1 a1).bind fun t42 => (if t42 = true then ((spec_l10Matrix.g k x0.f2 a1 a1).bind fun t54 => (if t54 = true then ((spec_l10Matrix.g k x0.f3 a1 a1).bind fun t66 => (if t66 = true then ((spec_l10Matrix.g k x0.f4 a1 a1).bind fun t78 => (if t78 = true then ((spec_l10Matrix.g k x0.f6 a1 (x0.f6.f1.length : Int)).bind fun t86 => (if t86 = true then ((spec_l10Matrix.g k x0.f7 (x0.f6.f1.length : Int) a1).bind fun t98 => (some t98)) else (some false))) else (some false))) else (some false))) else (some false))) else (some false))) else (some false))) else (some false))) else (some false))) else (some false)))
theorem spec_LayerOk.runs (k : Nat) (cs0 : List Value) (x0 : S118) (a1 : Int) (r : Bool) (w : World) (hk0 : k118.K w x0 cs0) (H : spec_LayerOk.g k x0 a1 = some r) :
   Calls prog 171 #[.agg cs0.toArray, vi a1] w fun e w' => e = .returned (.bool r) ∧ Below w.heap.size w w' := by
 have el0 : cs0.length = 32 := k118.K_len hk0
 unfold spec_LayerOk.g at H
 have HS : St (fun _ => True) w w [] [(kF k118 x0 cs0)] [] := St.start (foot_cons (foot_K h118 hk0) foot_nil)
 refine cw_ (n := 70) func171 fun R_ hR_ => ?_
 refine sr_ fun _ hK1 => ?_
 refine bo_ HS (fun b2 w3 hb2 HS => ?_)
 refine ad_ hK1 ?_
 refine sr_ fun _ hK4 => ?_
 refine v_ (fa_ underlying118) ?_
 refine v_ (fa_ underlying30) ?_
 obtain ⟨A5, c6, hc7, le8, HS⟩ := HS.sO 0 rfl at118_23
 refine v_ (lb_ (HS.mu 0 rfl) underlying26 hc7) ?_
 refine ln_ underlying26 ?_
 refine ad_ hK4 ?_
 refine sr_ fun _ hK9 => ?_
 refine mv_ ?_
 obtain ⟨t10, ha11, H⟩ := bind_some H
 refine cs0_ HS func168 (spec_l05Width.calls a1 t10 _ ha11) (fun w12 HS => ?_)
 clear ha11
 refine mv_ ?_
 rcases eti_ H with ⟨c13, H⟩ | ⟨c13, H⟩
 · refine off_ (c' := false) (bF c13) ?_
   refine WL.know 12 (bF c13) ?_
   refine fast_ ?_
   refine via_ hK9 ?_
   obtain rfl := os H
   exact rt1 Tryz.f171 rfl rfl hR_ ⟨rfl, HS.b⟩
 refine on_ c13 ?_
 refine mv_ ?_
 refine on_ c13 ?_
 obtain ⟨t14, ha15, H⟩ := bind_some H
 refine cs0_ HS func168 (spec_l05Width.calls (x0.f6.f1.length : Int) t14 _ ha15) (fun w16 HS => ?_)
 clear ha15
 refine v_ (Run.pickT rfl rfl c13 rfl) ?_
 refine mv_ ?_
 rcases eti_ H with ⟨c17, H⟩ | ⟨c17, H⟩
 · refine off_ (c' := false) (bF c17) ?_
   refine WL.know 16 (bF c17) ?_
   refine fast_ ?_
   refine via_ hK9 ?_
   obtain rfl := os H
   exact rt1 Tryz.f171 rfl rfl hR_ ⟨rfl, HS.b⟩
 refine on_ c17 ?_
 refine v_ (fa_ underlying118) ?_
 refine on_ c17 ?_
 obtain ⟨A18, c19, hc20, le21, HS⟩ := HS.sO 1 rfl at118_0
 refine v_ (lb_ (HS.mu 0 rfl) underlying28 hc20) ?_
 refine on_ c17 ?_
 refine mv_ ?_
 refine on_ c17 ?_
 obtain ⟨t22, ha23, H⟩ := bind_some H
 refine cs_ HS func172 (spec_GainOk.runs k A18 c19 x0.f0 a1 t22 _ (HS.getO 0 rfl) le21 ha23) (fun w24 HS => ?_)
 clear ha23
 refine v_ (Run.pickT rfl rfl c17 rfl) ?_
 refine mv_ ?_
 rcases eti_ H with ⟨c25, H⟩ | ⟨c25, H⟩
 · refine off_ (c' := false) (bF c25) ?_
   refine WL.know 22 (bF c25) ?_
   refine fast_ ?_
   refine via_ hK9 ?_
   obtain rfl := os H
   exact rt1 Tryz.f171 rfl rfl hR_ ⟨rfl, HS.b⟩
 refine on_ c25 ?_
 refine v_ (fa_ underlying118) ?_
 refine on_ c25 ?_
 obtain ⟨A26, c27, hc28, le29, HS⟩ := HS.sO 2 rfl at118_21
 refine v_ (lb_ (HS.mu 0 rfl) underlying28 hc28) ?_
 refine on_ c25 ?_
 refine mv_ ?_
 refine on_ c25 ?_
 obtain ⟨t30, ha31, H⟩ := bind_some H
 refine cs_ HS func172 (spec_GainOk.runs k A26 c27 x0.f5 a1 t30 _ (HS.getO 0 rfl) le29 ha31) (fun w32 HS => ?_)
 clear ha31
 refine v_ (Run.pickT rfl rfl c25 rfl) ?_
 refine mv_ ?_
 rcases eti_ H with ⟨c33, H⟩ | ⟨c33, H⟩
 · refine off_ (c' := false) (bF c33) ?_
   refine WL.know 28 (bF c33) ?_
   refine fast_ ?_
   refine via_ hK9 ?_
   obtain rfl := os H
   exact rt1 Tryz.f171 rfl rfl hR_ ⟨rfl, HS.b⟩
 refine on_ c33 ?_
 refine v_ (fa_ underlying118) ?_
 refine on_ c33 ?_
 obtain ⟨A34, c35, hc36, le37, HS⟩ := HS.sO 3 rfl at118_2
 obtain ⟨A38, c39, hc40, le41, HS⟩ := HS.sO 4 rfl at118_3
 refine v_ (ls_ (HS.mu 0 rfl) underlying30 (part_cons (at118_1 (HS.aO 5 rfl)).int (part_cons hc36 (part_cons hc40 (part_cons (at118_4 (HS.aO 5 rfl)).int (part_cons (at118_5 (HS.aO 5 rfl)).int part_nil)))))) ?_
 refine on_ c33 ?_
 refine mv_ ?_
 refine on_ c33 ?_
 refine mv_ ?_
 refine on_ c33 ?_
 obtain ⟨t42, ha43, H⟩ := bind_some H
 refine cs_ HS func173 (spec_l10Matrix.runs k x0.f1 A34 c35 A38 c39 a1 a1 t42 _ (HS.getO 1 rfl) le37 (HS.getO 0 rfl) le41 ha43) (fun w44 HS => ?_)
 clear ha43
 refine v_ (Run.pickT rfl rfl c33 rfl) ?_
 refine mv_ ?_
 rcases eti_ H with ⟨c45, H⟩ | ⟨c45, H⟩
 · refine off_ (c' := false) (bF c45) ?_
   refine WL.know 35 (bF c45) ?_
   refine fast_ ?_
   refine via_ hK9 ?_
   obtain rfl := os H
   exact rt1 Tryz.f171 rfl rfl hR_ ⟨rfl, HS.b⟩
 refine on_ c45 ?_
 refine v_ (fa_ underlying118) ?_
 refine on_ c45 ?_
 obtain ⟨A46, c47, hc48, le49, HS⟩ := HS.sO 5 rfl at118_7
 obtain ⟨A50, c51, hc52, le53, HS⟩ := HS.sO 6 rfl at118_8
 refine v_ (ls_ (HS.mu 0 rfl) underlying30 (part_cons (at118_6 (HS.aO 7 rfl)).int (part_cons hc48 (part_cons hc52 (part_cons (at118_9 (HS.aO 7 rfl)).int (part_cons (at118_10 (HS.aO 7 rfl)).int part_nil)))))) ?_
 refine on_ c45 ?_
 refine mv_ ?_
 refine on_ c45 ?_
 refine mv_ ?_
 refine on_ c45 ?_
 obtain ⟨t54, ha55, H⟩ := bind_some H
 refine cs_ HS func173 (spec_l10Matrix.runs k x0.f2 A46 c47 A50 c51 a1 a1 t54 _ (HS.getO 1 rfl) le49 (HS.getO 0 rfl) le53 ha55) (fun w56 HS => ?_)
 clear ha55
 refine v_ (Run.pickT rfl rfl c45 rfl) ?_
 refine mv_ ?_
 rcases eti_ H with ⟨c57, H⟩ | ⟨c57, H⟩
 · refine off_ (c' := false) (bF c57) ?_
   refine WL.know 42 (bF c57) ?_
   refine fast_ ?_
   refine via_ hK9 ?_
   obtain rfl := os H
   exact rt1 Tryz.f171 rfl rfl hR_ ⟨rfl, HS.b⟩
 refine on_ c57 ?_
 refine v_ (fa_ underlying118) ?_
 refine on_ c57 ?_
 obtain ⟨A58, c59, hc60, le61, HS⟩ := HS.sO 7 rfl at118_12
 obtain ⟨A62, c63, hc64, le65, HS⟩ := HS.sO 8 rfl at118_13
 refine v_ (ls_ (HS.mu 0 rfl) underlying30 (part_cons (at118_11 (HS.aO 9 rfl)).int (part_cons hc60 (part_cons hc64 (part_cons (at118_14 (HS.aO 9 rfl)).int (part_cons (at118_15 (HS.aO 9 rfl)).int part_nil)))))) ?_
 refine on_ c57 ?_
 refine mv_ ?_
 refine on_ c57 ?_
 refine mv_ ?_
 refine on_ c57 ?_
 obtain ⟨t66, ha67, H⟩ := bind_some H
 refine cs_ HS func173 (spec_l10Matrix.runs k x0.f3 A58 c59 A62 c63 a1 a1 t66 _ (HS.getO 1 rfl) le61 (HS.getO 0 rfl) le65 ha67) (fun w68 HS => ?_)
 clear ha67
 refine v_ (Run.pickT rfl rfl c57 rfl) ?_
 refine mv_ ?_
 rcases eti_ H with ⟨c69, H⟩ | ⟨c69, H⟩
 · refine off_ (c' := false) (bF c69) ?_
   refine WL.know 49 (bF c69) ?_
   refine fast_ ?_
   refine via_ hK9 ?_
   obtain rfl := os H
   exact rt1 Tryz.f171 rfl rfl hR_ ⟨rfl, HS.b⟩
 refine on_ c69 ?_
 refine v_ (fa_ underlying118) ?_
 refine on_ c69 ?_
 obtain ⟨A70, c71, hc72, le73, HS⟩ := HS.sO 9 rfl at118_17
 obtain ⟨A74, c75, hc76, le77, HS⟩ := HS.sO 10 rfl at118_18
 refine v_ (ls_ (HS.mu 0 rfl) underlying30 (part_cons (at118_16 (HS.aO 11 rfl)).int (part_cons hc72 (part_cons hc76 (part_cons (at118_19 (HS.aO 11 rfl)).int (part_cons (at118_20 (HS.aO 11 rfl)).int part_nil)))))) ?_
 refine on_ c69 ?_
 refine mv_ ?_
 refine on_ c69 ?_
 refine mv_ ?_
 refine on_ c69 ?_
 obtain ⟨t78, ha79, H⟩ := bind_some H
 refine cs_ HS func173 (spec_l10Matrix.runs k x0.f4 A70 c71 A74 c75 a1 a1 t78 _ (HS.getO 1 rfl) le73 (HS.getO 0 rfl) le77 ha79) (fun w80 HS => ?_)
 clear ha79
 refine v_ (Run.pickT rfl rfl c69 rfl) ?_
 refine mv_ ?_
 rcases eti_ H with ⟨c81, H⟩ | ⟨c81, H⟩
 · refine off_ (c' := false) (bF c81) ?_
   refine WL.know 56 (bF c81) ?_
   refine fast_ ?_
   refine via_ hK9 ?_
   obtain rfl := os H
   exact rt1 Tryz.f171 rfl rfl hR_ ⟨rfl, HS.b⟩
 refine on_ c81 ?_
 refine v_ (fa_ underlying118) ?_
 refine on_ c81 ?_
 obtain ⟨A82, c83, hc84, le85, HS⟩ := HS.sO 11 rfl at118_24
 refine v_ (ls_ (HS.mu 0 rfl) underlying30 (part_cons (at118_22 (HS.aO 12 rfl)).int (part_cons hc7 (part_cons hc84 (part_cons (at118_25 (HS.aO 12 rfl)).int (part_cons (at118_26 (HS.aO 12 rfl)).int part_nil)))))) ?_
 refine on_ c81 ?_
 refine mv_ ?_
 refine on_ c81 ?_
 refine mv_ ?_
 refine on_ c81 ?_
 obtain ⟨t86, ha87, H⟩ := bind_some H
 refine cs_ HS func173 (spec_l10Matrix.runs k x0.f6 A5 c6 A82 c83 a1 (x0.f6.f1.length : Int) t86 _ (HS.getO 11 rfl) le8 (HS.getO 0 rfl) le85 ha87) (fun w88 HS => ?_)
 clear ha87
 refine v_ (Run.pickT rfl rfl c81 rfl) ?_
 refine mv_ ?_
 rcases eti_ H with ⟨c89, H⟩ | ⟨c89, H⟩
 · refine off_ (c' := false) (bF c89) ?_
   refine WL.know 63 (bF c89) ?_
   refine fast_ ?_
   refine via_ hK9 ?_
   obtain rfl := os H
   exact rt1 Tryz.f171 rfl rfl hR_ ⟨rfl, HS.b⟩
 refine on_ c89 ?_
 refine v_ (fa_ underlying118) ?_
 refine on_ c89 ?_
 obtain ⟨A90, c91, hc92, le93, HS⟩ := HS.sO 12 rfl at118_28
 obtain ⟨A94, c95, hc96, le97, HS⟩ := HS.sO 13 rfl at118_29
 refine v_ (ls_ (HS.mu 0 rfl) underlying30 (part_cons (at118_27 (HS.aO 14 rfl)).int (part_cons hc92 (part_cons hc96 (part_cons (at118_30 (HS.aO 14 rfl)).int (part_cons (at118_31 (HS.aO 14 rfl)).int part_nil)))))) ?_
 refine on_ c89 ?_
 refine mv_ ?_
 refine on_ c89 ?_
 refine mv_ ?_
 refine on_ c89 ?_
 obtain ⟨t98, ha99, H⟩ := bind_some H
 refine cs_ HS func173 (spec_l10Matrix.runs k x0.f7 A90 c91 A94 c95 (x0.f6.f1.length : Int) a1 t98 _ (HS.getO 1 rfl) le93 (HS.getO 0 rfl) le97 ha99) (fun w100 HS => ?_)
 clear ha99
 refine v_ (Run.pickT rfl rfl c89 rfl) ?_
 refine ad_ hK9 ?_
 obtain rfl := os H
 exact rt1 Tryz.f171 rfl rfl hR_ ⟨rfl, HS.b⟩
def spec_Vocab.g (k : Nat) (x0 : S34) : Option Int := (some (wrap64 (256 + (x0.f3.length : Int))))
theorem spec_Vocab.runs (k : Nat) (cs0 : List Value) (x0 : S34) (r : Int) (w : World) (hk0 : k34.K w x0 cs0) (H : spec_Vocab.g k x0 = some r) :
   Calls prog 118 #[.agg cs0.toArray] w fun e w' => e = .returned (vi r) ∧ Below w.heap.size w w' := by
 have el0 : cs0.length = 14 := k34.K_len hk0
 unfold spec_Vocab.g at H
 have HS : St (fun _ => True) w w [] [(kF k34 x0 cs0)] [] := St.start (foot_cons (foot_K h34 hk0) foot_nil)
 refine cw_ (n := 7) func118 fun R_ hR_ => ?_
 refine sr_ fun _ hK1 => ?_
 refine bo_ HS (fun b2 w3 hb2 HS => ?_)
 refine ad_ hK1 ?_
 refine sr_ fun _ hK4 => ?_
 refine v_ (fa_ underlying34) ?_
 obtain ⟨A5, c6, hc7, le8, HS⟩ := HS.sO 0 rfl at34_3
 refine v_ (lb_ (HS.mu 0 rfl) underlying25 hc7) ?_
 refine ln_ underlying25 ?_
 refine b_ bin_add64 ?_
 refine ad_ hK4 ?_
 obtain rfl := os H
 exact rt1 Tryz.f118 rfl rfl hR_ ⟨rfl, HS.b⟩
def spec_ModelOk.b3 (x0 : S34) (rec_ : Int → Option (Bool ⊕ Int)) (k240 : Nat) (i168 : Int) : Option (Bool ⊕ Int) := (if i168 < (x0.f4.length : Int) then (if 0 ≤ i168 ∧ i168 < (x0.f4.length : Int) then (if ((x0.f4.getD i168.toNat []).length : Int) = x0.f0 then ((spec_l05All.g k240 (x0.f4.getD i168.toNat []) (-127) 127).bind fun t254 => (if t254 = true then (rec_ (wrap64 (i168 + 1))) else (some (Sum.inl false)))) else (some (Sum.inl false))) else none) else (some (Sum.inr i168)))
def spec_ModelOk.l3 (x0 : S34) : Nat → Int → Option (Bool ⊕ Int)
 | 0, _ => none
 | k + 1, i168 => spec_ModelOk.b3 x0 (spec_ModelOk.l3 x0 k) k i168
def spec_ModelOk.b2 (x0 : S34) (rec_ : Int → Option (Bool ⊕ Int)) (k221 : Nat) (i178 : Int) : Option (Bool ⊕ Int) := (if i178 < (x0.f5.length : Int) then (if 0 ≤ i178 ∧ i178 < (x0.f5.length : Int) then ((spec_LayerOk.g k221 (x0.f5.getD i178.toNat o118) x0.f0).bind fun t233 => (if t233 = true then (rec_ (wrap64 (i178 + 1))) else (some (Sum.inl false)))) else none) else (some (Sum.inr i178)))
def spec_ModelOk.l2 (x0 : S34) : Nat → Int → Option (Bool ⊕ Int)
 | 0, _ => none
 | k + 1, i178 => spec_ModelOk.b2 x0 (spec_ModelOk.l2 x0 k) k i178
def spec_ModelOk.b1 (x0 : S34) (rec_ : Int → Option (Bool ⊕ Int)) (k114 : Nat) (i42 : Int) : Option (Bool ⊕ Int) := (if i42 < (x0.f4.length : Int) then (if 0 ≤ i42 ∧ i42 < (x0.f4.length : Int) then (if ((x0.f4.getD i42.toNat []).length : Int) = x0.f0 then ((spec_l05All.g k114 (x0.f4.getD i42.toNat []) (-127) 127).bind fun t128 => (if t128 = true then (rec_ (wrap64 (i42 + 1))) else (some (Sum.inl false)))) else (some (Sum.inl false))) else none) else (some (Sum.inr i42)))
def spec_ModelOk.l1 (x0 : S34) : Nat → Int → Option (Bool ⊕ Int)
 | 0, _ => none
 | k + 1, i42 => spec_ModelOk.b1 x0 (spec_ModelOk.l1 x0 k) k i42
def spec_ModelOk.b0 (x0 : S34) (rec_ : Int → Option (Bool ⊕ Int)) (k95 : Nat) (i52 : Int) : Option (Bool ⊕ Int) := (if i52 < (x0.f5.length : Int) then (if 0 ≤ i52 ∧ i52 < (x0.f5.length : Int) then ((spec_LayerOk.g k95 (x0.f5.getD i52.toNat o118) x0.f0).bind fun t107 => (if t107 = true then (rec_ (wrap64 (i52 + 1))) else (some (Sum.inl false)))) else none) else (some (Sum.inr i52)))
def spec_ModelOk.l0 (x0 : S34) : Nat → Int → Option (Bool ⊕ Int)
 | 0, _ => none
 | k + 1, i52 => spec_ModelOk.b0 x0 (spec_ModelOk.l0 x0 k) k i52
def spec_ModelOk.g (k : Nat) (x0 : S34) : Option Bool := ((spec_l05Width.f x0.f0).bind fun t7 => (if t7 = true then (if x0.f1 = 1 then ((spec_MergesOk.g k x0.f3).bind fun t16 => (if t16 = true then ((spec_Vocab.g k x0).bind fun t24 => (if (x0.f4.length : Int) = t24 then ((spec_l01In.f (x0.f5.length : Int) 1 2).bind fun t32 => (if t32 = true then ((spec_ModelOk.l1 x0 k 0).bind (fun oc112 => match oc112 with | .inl r_ => some r_ | .inr i42 => ((spec_ModelOk.l0 x0 k 0).bind (fun oc93 => match oc93 with | .inl r_ => some r_ | .inr i52 => ((spec_GainOk.g k x0.f6 x0.f0).bind fun t62 => (if t62 = true then ((spec_Vocab.g k x0).bind fun t74 => ((spec_l10Matrix.g k x0.f7 x0.f0 t74).bind fun t77 => (if t77 = true then (if x0.f1 ≠ 0 then ((spec_TurnsOk.g k x0.f8 x0.f2 (wrap64 (Int.tdiv (wrap64 (Int.tdiv x0.f0 x0.f1)) 2))).bind fun t90 => (some t90)) else none) else (some false)))) else (some false))))))) else (some false))) else (some false))) else (some false))) else (if x0.f1 = 2 then ((spec_MergesOk.g k x0.f3).bind fun t142 => (if t142 = true then ((spec_Vocab.g k x0).bind fun t150 => (if (x0.f4.length : Int) = t150 then ((spec_l01In.f (x0.f5.length : Int) 1 2).bind fun t158 => (if t158 = true then ((spec_ModelOk.l3 x0 k 0).bind (fun oc238 => match oc238 with | .inl r_ => some r_ | .inr i168 => ((spec_ModelOk.l2 x0 k 0).bind (fun oc219 => match oc219 with | .inl r_ => some r_ | .inr i178 => ((spec_GainOk.g k x0.f6 x0.f0).bind fun t188 => (if t188 = true then ((spec_Vocab.g k x0).bind fun t200 => ((spec_l10Matrix.g k x0.f7 x0.f0 t200).bind fun t203 => (if t203 = true then (if x0.f1 ≠ 0 then ((spec_TurnsOk.g k x0.f8 x0.f2 (wrap64 (Int.tdiv (wrap64 (Int.tdiv x0.f0 x0.f1)) 2))).bind fun t216 => (some t216)) else none) else (some false)))) else (some false))))))) else (some false))) else (some false))) else (some false))) else (some false))) else (some false)))
theorem spec_ModelOk.runs (k : Nat) (cs0 : List Value) (x0 : S34) (r : Bool) (w : World) (hk0 : k34.K w x0 cs0) (H : spec_ModelOk.g k x0 = some r) :
   Calls prog 95 #[.agg cs0.toArray] w fun e w' => e = .returned (.bool r) ∧ Below w.heap.size w w' := by
 have el0 : cs0.length = 14 := k34.K_len hk0
 unfold spec_ModelOk.g at H
 have HS : St (fun _ => True) w w [] [(kF k34 x0 cs0)] [] := St.start (foot_cons (foot_K h34 hk0) foot_nil)
 refine cw_ (n := 108) func95 fun R_ hR_ => ?_
 refine sr_ fun _ hK1 => ?_
 refine bo_ HS (fun b2 w3 hb2 HS => ?_)
 refine ad_ hK1 ?_
 clear hK1
 exact by (
 refine WC.seq fun _ hK4 => ?_
 refine WC.seq fun _ hK5 => ?_
 refine WC.drawS HS [] rfl rfl (fun w6 HS => ?_)
 have HB := Below.refl w6.heap.size w6
 have HSW := HS
 refine df_ 0 underlying34 ?_
 refine bl_ 1 HS (Below.refl _ _) 0 underlying3 (at34_0 (HS.aO 0 rfl)).int ?_
 obtain ⟨t7, ha8, H⟩ := bind_some H
 exact by (
 refine dcs0_ HS HB 2 (w_none rfl) func168 (spec_l05Width.calls x0.f0 t7 _ ha8) (fun w9 HS HB => ?_)
 clear ha8
 refine dp_ 3 (fun _ => Run.not rfl rfl) ?_
 refine dm_ 4 ?_
 rcases eti_ H with ⟨c10, H⟩ | ⟨c10, H⟩
 · refine doTs_ 4 9 [5, 6, 7, 8] [10, 11, 12, 13] (nB (bF c10)) ?_
   refine du_ 9 ?_
   refine du_ 10 ?_
   exact by (
   refine du_ 11 ?_
   refine doT_ 12 (nB (bF c10)) ?_
   refine dp_ 13 (fun _ => Run.pickT rfl rfl (nB (bF c10)) rfl) ?_
   refine dm_ 14 ?_
   refine doTs_ 4 19 [15, 16, 17, 18] [20, 21, 22, 23] rfl ?_
   refine dp_ 19 (fun _ => Run.pickT rfl rfl rfl rfl) ?_
   refine dm_ 20 ?_
   refine doTs_ 6 25 [21, 22, 23, 24, 25, 26] [26, 27, 28, 29, 30, 31] rfl ?_
   exact by (
   refine dp_ 27 (fun _ => Run.pickT rfl rfl rfl rfl) ?_
   refine dm_ 28 ?_
   refine doTs_ 5 33 [29, 30, 31, 32, 33] [34, 35, 36, 37, 38] rfl ?_
   refine dp_ 34 (fun _ => Run.pickT rfl rfl rfl rfl) ?_
   refine dd_ ?_
   clear HB HSW
   refine via_ hK5 (wy_ rfl ?_)
   clear hK5
   exact by (
   refine sr_ fun _ hK264 => ?_
   refine ad_ hK264 ?_
   clear hK264
   obtain rfl := os H
   exact rt1 Tryz.f95 rfl rfl hR_ ⟨rfl, HS.b⟩ )))
 refine dfg_ 5 (nB c10) underlying34 ?_
 refine blg_ 6 (nB c10) HSW HB 0 underlying3 (at34_1 (HSW.aO 0 rfl)).int ?_
 refine dg_ 7 (nB c10) (fun _ => Run.bin rfl rfl rfl bin_neq) ?_
 exact by (
 refine dg_ 8 (nB c10) (fun _ => Run.move rfl rfl) ?_
 rcases ite_ H with ⟨c11, H⟩ | ⟨c11, H⟩
 · refine doFs_ 3 13 [9, 10, 11] [14, 15, 16] (qF c11) ?_
   refine dg_ 12 (nB c10) (fun _ => Run.pickF rfl rfl (qF c11) rfl) ?_
   refine dp_ 13 (fun _ => Run.pickF rfl rfl (nB c10) rfl) ?_
   refine dm_ 14 ?_
   refine dfg_ 15 rfl underlying34 ?_
   obtain ⟨A12, c13, hc14, le15, HS⟩ := HS.sO 0 rfl at34_3
   exact by (
   refine blg_ 16 rfl HSW HB 0 underlying25 hc14 ?_
   obtain ⟨t16, ha17, H⟩ := bind_some H
   refine dcs_ HS HB 17 (w_on rfl rfl rfl rfl) func169 (spec_MergesOk.runs k A12 c13 x0.f3 t16 _ (HS.getO 0 rfl) le15 ha17) (fun w18 HS HB => ?_)
   clear ha17
   refine dg_ 18 rfl (fun _ => Run.not rfl rfl) ?_
   refine dp_ 19 (fun _ => Run.pickF rfl rfl rfl rfl) ?_
   refine dm_ 20 ?_
   rcases eti_ H with ⟨c19, H⟩ | ⟨c19, H⟩
   · refine doTs_ 6 25 [21, 22, 23, 24, 25, 26] [26, 27, 28, 29, 30, 31] (nB (bF c19)) ?_
     exact by (
     refine dp_ 27 (fun _ => Run.pickT rfl rfl (nB (bF c19)) rfl) ?_
     refine dm_ 28 ?_
     refine doTs_ 5 33 [29, 30, 31, 32, 33] [34, 35, 36, 37, 38] rfl ?_
     refine dp_ 34 (fun _ => Run.pickT rfl rfl rfl rfl) ?_
     refine dd_ ?_
     clear HB HSW
     refine via_ hK5 (wy_ rfl ?_)
     clear hK5
     exact by (
     refine sr_ fun _ hK136 => ?_
     refine ad_ hK136 ?_
     clear hK136
     obtain rfl := os H
     exact rt1 Tryz.f95 rfl rfl hR_ ⟨rfl, HS.b⟩ ))
   refine dfg_ 21 (nB c19) underlying34 ?_
   obtain ⟨A20, c21, hc22, le23, HS⟩ := HS.sO 1 rfl at34_4
   refine blg_ 22 (nB c19) HSW HB 0 underlying26 hc22 ?_
   exact by (
   refine dg_ 23 (nB c19) (fun _ => Run.len (ts := #[]) rfl underlying26 rfl) ?_
   refine dh_ 24 (nB c19) HB (fun w_ hw_ => Run.loadS (cs := cs0) rfl rfl underlying34 rfl (by rw [el0]; kernel_rfl) (box_part ((HSW.below hw_).mu 0 rfl) part_all)) ?_
   obtain ⟨t24, ha25, H⟩ := bind_some H
   refine dcs_ HS HB 25 (w_on rfl rfl rfl (nB c19)) func118 (spec_Vocab.runs k cs0 x0 t24 _ (HS.getO 2 rfl) ha25) (fun w26 HS HB => ?_)
   clear ha25
   refine dg_ 26 (nB c19) (fun _ => Run.bin rfl rfl rfl bin_neq) ?_
   refine dp_ 27 (fun _ => Run.pickF rfl rfl (nB c19) rfl) ?_
   refine dm_ 28 ?_
   exact by (
   rcases eti_ H with ⟨c27, H⟩ | ⟨c27, H⟩
   · refine doTs_ 5 33 [29, 30, 31, 32, 33] [34, 35, 36, 37, 38] (qT c27) ?_
     refine dp_ 34 (fun _ => Run.pickT rfl rfl (qT c27) rfl) ?_
     refine dd_ ?_
     clear HB HSW
     refine via_ hK5 (wy_ rfl ?_)
     clear hK5
     refine sr_ fun _ hK135 => ?_
     exact by (
     refine ad_ hK135 ?_
     clear hK135
     obtain rfl := os H
     exact rt1 Tryz.f95 rfl rfl hR_ ⟨rfl, HS.b⟩ )
   refine dfg_ 29 (qF c27) underlying34 ?_
   obtain ⟨A28, c29, hc30, le31, HS⟩ := HS.sO 2 rfl at34_5
   refine blg_ 30 (qF c27) HSW HB 0 underlying27 hc30 ?_
   refine dg_ 31 (qF c27) (fun _ => Run.len (ts := #[]) rfl underlying27 rfl) ?_
   exact by (
   obtain ⟨t32, ha33, H⟩ := bind_some H
   refine dcs0_ HS HB 32 (w_on rfl rfl rfl (qF c27)) func96 (spec_l01In.calls (x0.f5.length : Int) 1 2 t32 _ ha33) (fun w34 HS HB => ?_)
   clear ha33
   refine dg_ 33 (qF c27) (fun _ => Run.not rfl rfl) ?_
   refine dp_ 34 (fun _ => Run.pickF rfl rfl (qF c27) rfl) ?_
   refine dd_ ?_
   clear HB HSW
   refine via_ hK5 ?_
   exact by (
   clear hK5
   rcases eti_ H with ⟨c35, H⟩ | ⟨c35, H⟩
   · refine wy_ (nB (bF c35)) (sr_ fun _ hK134 => ?_)
     refine ad_ hK134 ?_
     clear hK134
     obtain rfl := os H
     exact rt1 Tryz.f95 rfl rfl hR_ ⟨rfl, HS.b⟩
   refine wn_ (nB c35) (WC.skip (via_ hK4 (WC.seq fun K36 hK36 => ?_)))
   exact by (
   clear hK4
   refine sr_ fun _ hK37 => ?_
   refine ad_ hK37 ?_
   clear hK37
   refine WC.block ?_
   obtain ⟨G38, hG39, oc40, H, Ho41⟩ := open_G H
   let J43 := fun (i42 : Int) (E_ : Env) (W_ : World) => E_ = [(1, .pointer (some ⟨b2, 0, none⟩)), (3, vi i42)] ∧ St (fun _ => True) w W_ [boxM b2 cs0.toArray 34] [(cF k118 A28 x0.f5), (cF kS3 A20 x0.f4), (cF k114 A12 x0.f3), (kF k34 x0 cs0)] []
   have X44 : ∀ E_ W_, (∃ i42, G38 (Sum.inr i42) = some r ∧ J43 i42 E_ W_) → ∀ a, Fits a 108 E_ → K36 a W_ := by
     exact by (
     rintro E_ w45 ⟨i42, H, rfl, HS⟩
     rw [hG39] at H
     (try dsimp only at H)
     refine hK36 _ _ ?_
     clear hK36
     refine WC.seq fun K46 hK46 => ?_
     refine sr_ fun _ hK47 => ?_
     refine ad_ hK47 ?_
     exact by (
     clear hK47
     refine WC.block ?_
     obtain ⟨G48, hG49, oc50, H, Ho51⟩ := open_G H
     let J53 := fun (i52 : Int) (E_ : Env) (W_ : World) => E_ = [(1, .pointer (some ⟨b2, 0, none⟩)), (4, vi i52)] ∧ St (fun _ => True) w W_ [boxM b2 cs0.toArray 34] [(cF k118 A28 x0.f5), (cF kS3 A20 x0.f4), (cF k114 A12 x0.f3), (kF k34 x0 cs0)] []
     have X54 : ∀ E_ W_, (∃ i52, G48 (Sum.inr i52) = some r ∧ J53 i52 E_ W_) → ∀ a, Fits a 108 E_ → K46 a W_ := by
       rintro E_ w55 ⟨i52, H, rfl, HS⟩
       rw [hG49] at H
       (try dsimp only at H)
       exact by (
       refine hK46 _ _ ?_
       clear hK46
       refine WC.seq fun _ hK56 => ?_
       refine WC.drawS HS [] rfl rfl (fun w57 HS => ?_)
       have HB := Below.refl w57.heap.size w57
       have HSW := HS
       refine df_ 0 underlying34 ?_
       refine df_ 2 underlying34 ?_
       exact by (
       obtain ⟨A58, c59, hc60, le61, HS⟩ := HS.sO 3 rfl at34_6
       refine bl_ 1 HS (Below.refl _ _) 0 underlying28 hc60 ?_
       refine bl_ 3 HS (Below.refl _ _) 0 underlying3 (at34_0 (HS.aO 4 rfl)).int ?_
       obtain ⟨t62, ha63, H⟩ := bind_some H
       refine dcs_ HS HB 4 (w_none rfl) func172 (spec_GainOk.runs k A58 c59 x0.f6 x0.f0 t62 _ (HS.getO 0 rfl) le61 ha63) (fun w64 HS HB => ?_)
       clear ha63
       refine dm_ 5 ?_
       rcases eti_ H with ⟨c65, H⟩ | ⟨c65, H⟩
       · refine doFs_ 7 86 [6, 7, 8, 9, 10, 11, 12] [87, 88, 89, 90, 91, 92, 93] (bF c65) ?_
         exact by (
         refine dp_ 13 (fun _ => Run.pickF rfl rfl (bF c65) rfl) ?_
         refine dm_ 14 ?_
         refine doFs_ 11 95 [15, 16, 17, 18, 19, 20, 21, 22, 23, 24, 25] [96, 97, 98, 99, 100, 101, 102, 103, 104, 105, 106] rfl ?_
         refine dp_ 26 (fun _ => Run.pickF rfl rfl rfl rfl) ?_
         refine dp_ 27 (fun _ => Run.assign rfl rfl) ?_
         refine dd_ ?_
         clear HB HSW
         refine via_ hK56 ?_
         exact by (
         clear hK56
         obtain rfl := os H
         exact rt1 Tryz.f95 rfl rfl hR_ ⟨rfl, HS.b⟩ ))
       refine dfg_ 6 c65 underlying34 ?_
       refine dfg_ 8 c65 underlying34 ?_
       obtain ⟨A66, c67, hc68, le69, HS⟩ := HS.sO 4 rfl at34_8
       obtain ⟨A70, c71, hc72, le73, HS⟩ := HS.sO 5 rfl at34_9
       refine dh_ 7 c65 HB (fun w_ hw_ => Run.loadS (cs := [vi x0.f7.f0, .slice A66 x0.f7.f1.length c67, .slice A70 x0.f7.f2.length c71, vi x0.f7.f3, vi x0.f7.f4]) rfl rfl underlying30 rfl (by kernel_rfl) (box_part ((HSW.below hw_).mu 0 rfl) (part_cons (at34_7 ((HSW.below hw_).aO 3 rfl)).int (part_cons hc68 (part_cons hc72 (part_cons (at34_10 ((HSW.below hw_).aO 3 rfl)).int (part_cons (at34_11 ((HSW.below hw_).aO 3 rfl)).int part_nil))))))) ?_
       exact by (
       refine blg_ 9 c65 HSW HB 0 underlying3 (at34_0 (HSW.aO 3 rfl)).int ?_
       refine dh_ 10 c65 HB (fun w_ hw_ => Run.loadS (cs := cs0) rfl rfl underlying34 rfl (by rw [el0]; kernel_rfl) (box_part ((HSW.below hw_).mu 0 rfl) part_all)) ?_
       obtain ⟨t74, ha75, H⟩ := bind_some H
       refine dcs_ HS HB 11 (w_on rfl rfl rfl c65) func118 (spec_Vocab.runs k cs0 x0 t74 _ (HS.getO 6 rfl) ha75) (fun w76 HS HB => ?_)
       clear ha75
       obtain ⟨t77, ha78, H⟩ := bind_some H
       refine dcs_ HS HB 12 (w_on rfl rfl rfl c65) func173 (spec_l10Matrix.runs k x0.f7 A66 c67 A70 c71 x0.f0 t74 t77 _ (HS.getO 1 rfl) le69 (HS.getO 0 rfl) le73 ha78) (fun w79 HS HB => ?_)
       clear ha78
       exact by (
       refine dp_ 13 (fun _ => Run.pickT rfl rfl c65 rfl) ?_
       refine dm_ 14 ?_
       rcases eti_ H with ⟨c80, H⟩ | ⟨c80, H⟩
       · refine doFs_ 11 95 [15, 16, 17, 18, 19, 20, 21, 22, 23, 24, 25] [96, 97, 98, 99, 100, 101, 102, 103, 104, 105, 106] (bF c80) ?_
         refine dp_ 26 (fun _ => Run.pickF rfl rfl (bF c80) rfl) ?_
         refine dp_ 27 (fun _ => Run.assign rfl rfl) ?_
         refine dd_ ?_
         clear HB HSW
         exact by (
         refine via_ hK56 ?_
         clear hK56
         obtain rfl := os H
         exact rt1 Tryz.f95 rfl rfl hR_ ⟨rfl, HS.b⟩ )
       refine dfg_ 15 c80 underlying34 ?_
       refine dfg_ 17 c80 underlying34 ?_
       refine dfg_ 19 c80 underlying34 ?_
       refine dfg_ 21 c80 underlying34 ?_
       exact by (
       obtain ⟨A81, c82, hc83, le84, HS⟩ := HS.sO 6 rfl at34_12
       obtain ⟨A85, c86, hc87, le88, HS⟩ := HS.sO 7 rfl at34_13
       refine dh_ 16 c80 HB (fun w_ hw_ => Run.loadS (cs := [.slice A81 x0.f8.f0.length c82, .slice A85 x0.f8.f1.length c86]) rfl rfl underlying32 rfl (by kernel_rfl) (box_part ((HSW.below hw_).mu 0 rfl) (part_cons hc83 (part_cons hc87 part_nil)))) ?_
       refine blg_ 18 c80 HSW HB 0 underlying3 (at34_2 (HSW.aO 3 rfl)).int ?_
       refine blg_ 20 c80 HSW HB 0 underlying3 (at34_0 (HSW.aO 3 rfl)).int ?_
       refine blg_ 22 c80 HSW HB 0 underlying3 (at34_1 (HSW.aO 3 rfl)).int ?_
       obtain ⟨z89, H⟩ := if_some H
       refine dg_ 23 c80 (fun _ => Run.bin rfl rfl rfl (bin_quo64 z89)) ?_
       exact by (
       refine dg_ 24 c80 (fun _ => Run.bin rfl rfl rfl (bin_quo64 (show (2 : Int) ≠ 0 by decide))) ?_
       obtain ⟨t90, ha91, H⟩ := bind_some H
       refine dcs_ HS HB 25 (w_on rfl rfl rfl c80) func174 (spec_TurnsOk.runs k x0.f8 A81 c82 A85 c86 x0.f2 (wrap64 (Int.tdiv (wrap64 (Int.tdiv x0.f0 x0.f1)) 2)) t90 _ (HS.getO 1 rfl) le84 (HS.getO 0 rfl) le88 ha91) (fun w92 HS HB => ?_)
       clear ha91
       refine dp_ 26 (fun _ => Run.pickT rfl rfl c80 rfl) ?_
       refine dp_ 27 (fun _ => Run.assign rfl rfl) ?_
       refine dd_ ?_
       clear HB HSW
       exact by (
       refine via_ hK56 ?_
       clear hK56
       obtain rfl := os H
       exact rt1 Tryz.f95 rfl rfl hR_ ⟨rfl, HS.b⟩ )))))))
     clear hK46
     refine WC.loop (fun k_ E_ W_ => ∃ i52, (∃ o_, spec_ModelOk.l0 x0 k_ i52 = some o_ ∧ G48 o_ = some r) ∧ J53 i52 E_ W_) k ⟨0, ⟨_, H, Ho51⟩, rfl, HS⟩ (sb rfl) ?_
     rintro k_ E_ w94 ⟨i52, ⟨oc50, H, Ho51⟩, rfl, HS⟩
     rcases k_ with _ | k95
     · exact no_ H
     exact by (
     replace H : spec_ModelOk.b0 x0 (spec_ModelOk.l0 x0 k95) k95 i52 = some oc50 := H
     unfold spec_ModelOk.b0 at H
     refine WC.seq fun _ hK96 => ?_
     refine sr_ fun _ hK97 => ?_
     refine mv_ ?_
     refine v_ (fa_ underlying34) ?_
     refine v_ (lb_ (HS.mu 0 rfl) underlying27 hc30) ?_
     refine ln_ underlying27 ?_
     exact by (
     refine b_ bin_lss ?_
     refine dn_ hK97 ?_
     clear hK97
     rcases eti_ H with ⟨c98, H⟩ | ⟨c98, H⟩
     · refine wn_ (dF c98) (WC.exit ?_)
       obtain rfl := os H
       exact wv_ iq X54 ⟨i52, Ho51, rfl, HS⟩
     refine wy_ (dT c98) (WC.skip (via_ hK96 (WC.seq fun _ hK99 => ?_)))
     exact by (
     clear hK96
     refine WC.block (WC.seq fun _ hK100 => ?_)
     refine WC.drawS HS [] rfl rfl (fun w101 HS => ?_)
     have HB := Below.refl w101.heap.size w101
     have HSW := HS
     refine df_ 0 underlying34 ?_
     refine dm_ 2 ?_
     refine df_ 5 underlying34 ?_
     exact by (
     refine bl_ 1 HS (Below.refl _ _) 0 underlying27 hc30 ?_
     obtain ⟨⟨q102, q103⟩, H⟩ := if_some H
     obtain ⟨ad104, rfl⟩ := C_open (HS.getO 0 rfl) (lenpos q102 q103)
     refine di_ 3 underlying27 32 q102 q103 ?_
     obtain ⟨e105, el106, HS⟩ := HS.elO 0 rfl (by decide) o118 i52 q102 q103
     replace HSW := HS
     replace HS := HS.deriveO (p := (kF k118 (x0.f5.getD i52.toNat o118) e105)) (fun W_ hO_ hN_ => hO_.1.1)
     refine dt_ 4 (Below.refl _ _) (fun w_ hw_ => Run.loadS (cs := e105) rfl rfl underlying118 rfl (by rw [el106]; kernel_rfl) ((HS.below hw_).getO 1 rfl).2) ?_
     exact by (
     refine bl_ 6 HS (Below.refl _ _) 0 underlying3 (at34_0 (HS.aO 5 rfl)).int ?_
     obtain ⟨t107, ha108, H⟩ := bind_some H
     refine dcs_ HS HB 7 (w_none rfl) func171 (spec_LayerOk.runs k95 e105 (x0.f5.getD i52.toNat o118) x0.f0 t107 _ (HS.getO 0 rfl) ha108) (fun w109 HS HB => ?_)
     clear ha108
     refine dp_ 8 (fun _ => Run.not rfl rfl) ?_
     refine dd_ ?_
     clear HB HSW
     refine via_ hK100 ?_
     exact by (
     clear hK100
     rcases ite_ H with ⟨c110, H⟩ | ⟨c110, H⟩
     · refine wn_ (nB c110) (WC.skip (via_ hK99 (rg_ (mv_ ?_))))
       clear hK99
       refine b_ bin_add64 ?_
       refine as_ ?_
       refine WL.done ?_
       exact wr_ k95 iq ⟨(wrap64 (i52 + 1)), ⟨_, H, Ho51⟩, rfl, (St.pk HS [2, 3, 4, 5] [] rfl rfl)⟩
     exact by (
     refine wy_ (nB (bF c110)) (sr_ fun _ hK111 => ?_)
     refine ad_ hK111 ?_
     clear hK111
     refine WC.ret ?_
     obtain rfl := os H
     rw [hG49] at Ho51
     replace H : some _ = some _ := Ho51
     obtain rfl := os H
     exact fin1 Tryz.f95 rfl rfl hR_ ⟨rfl, HS.b⟩ )))))))))
   exact by (
   clear hK36
   refine WC.loop (fun k_ E_ W_ => ∃ i42, (∃ o_, spec_ModelOk.l1 x0 k_ i42 = some o_ ∧ G38 o_ = some r) ∧ J43 i42 E_ W_) k ⟨0, ⟨_, H, Ho41⟩, rfl, HS⟩ (sb rfl) ?_
   rintro k_ E_ w113 ⟨i42, ⟨oc40, H, Ho41⟩, rfl, HS⟩
   rcases k_ with _ | k114
   · exact no_ H
   replace H : spec_ModelOk.b1 x0 (spec_ModelOk.l1 x0 k114) k114 i42 = some oc40 := H
   unfold spec_ModelOk.b1 at H
   refine WC.seq fun _ hK115 => ?_
   exact by (
   refine sr_ fun _ hK116 => ?_
   refine mv_ ?_
   refine v_ (fa_ underlying34) ?_
   refine v_ (lb_ (HS.mu 0 rfl) underlying26 hc22) ?_
   refine ln_ underlying26 ?_
   refine b_ bin_lss ?_
   refine dn_ hK116 ?_
   clear hK116
   exact by (
   rcases eti_ H with ⟨c117, H⟩ | ⟨c117, H⟩
   · refine wn_ (dF c117) (WC.exit ?_)
     obtain rfl := os H
     exact wv_ iq X44 ⟨i42, Ho41, rfl, HS⟩
   refine wy_ (dT c117) (WC.skip (via_ hK115 (WC.seq fun _ hK118 => ?_)))
   clear hK115
   refine WC.block (WC.seq fun _ hK119 => ?_)
   refine WC.drawS HS [] rfl rfl (fun w120 HS => ?_)
   exact by (
   have HB := Below.refl w120.heap.size w120
   have HSW := HS
   refine df_ 0 underlying34 ?_
   refine dm_ 2 ?_
   refine df_ 6 underlying34 ?_
   refine bl_ 1 HS (Below.refl _ _) 0 underlying26 hc22 ?_
   obtain ⟨⟨q121, q122⟩, H⟩ := if_some H
   obtain ⟨ad123, rfl⟩ := C_open (HS.getO 1 rfl) (lenpos q121 q122)
   exact by (
   refine di_ 3 underlying26 1 q121 q122 ?_
   obtain ⟨A124, c125, le126, HS⟩ := HS.slO 1 rfl i42 q121 q122
   replace HSW := HS
   refine dt_ 4 (Below.refl _ _) (fun w_ hw_ => Run.load rfl rfl underlying28 rfl ((HS.below hw_).getO 1 rfl)) ?_
   refine dp_ 5 (fun _ => Run.len (ts := #[]) rfl underlying28 rfl) ?_
   refine bl_ 7 HS (Below.refl _ _) 0 underlying3 (at34_0 (HS.aO 5 rfl)).int ?_
   refine dp_ 8 (fun _ => Run.bin rfl rfl rfl bin_neq) ?_
   refine dm_ 9 ?_
   exact by (
   rcases eti_ H with ⟨c127, H⟩ | ⟨c127, H⟩
   · refine doTs_ 7 56 [10, 11, 12, 13, 14, 15, 16] [57, 58, 59, 60, 61, 62, 63] (qT c127) ?_
     refine dp_ 17 (fun _ => Run.pickT rfl rfl (qT c127) rfl) ?_
     refine dd_ ?_
     clear HB HSW
     refine via_ hK119 (wy_ rfl ?_)
     clear hK119
     refine sr_ fun _ hK133 => ?_
     exact by (
     refine ad_ hK133 ?_
     clear hK133
     refine WC.ret ?_
     obtain rfl := os H
     rw [hG39] at Ho41
     replace H : some _ = some _ := Ho41
     obtain rfl := os H
     exact fin1 Tryz.f95 rfl rfl hR_ ⟨rfl, HS.b⟩ )
   exact by (
   refine dfg_ 10 (qF c127) underlying34 ?_
   refine dg_ 12 (qF c127) (fun _ => Run.move rfl rfl) ?_
   refine blg_ 11 (qF c127) HS (Below.refl _ _) 0 underlying26 hc22 ?_
   refine dg_ 13 (qF c127) (fun _ => Run.indexAddr rfl rfl rfl underlying26 (sz := 1) (by kernel_rfl) q121 q122) ?_
   refine dh_ 14 (qF c127) (Below.refl _ _) (fun w_ hw_ => Run.load rfl rfl underlying28 rfl ((HS.below hw_).getO 1 rfl)) ?_
   obtain ⟨t128, ha129, H⟩ := bind_some H
   refine dcs_ HS HB 15 (w_on rfl rfl rfl (qF c127)) func170 (spec_l05All.runs k114 A124 c125 (x0.f4.getD i42.toNat []) (-127) 127 t128 _ (HS.getO 0 rfl) le126 ha129) (fun w130 HS HB => ?_)
   clear ha129
   exact by (
   refine dg_ 16 (qF c127) (fun _ => Run.not rfl rfl) ?_
   refine dp_ 17 (fun _ => Run.pickF rfl rfl (qF c127) rfl) ?_
   refine dd_ ?_
   clear HB HSW
   refine via_ hK119 ?_
   clear hK119
   rcases ite_ H with ⟨c131, H⟩ | ⟨c131, H⟩
   · refine wn_ (nB c131) (WC.skip (via_ hK118 (rg_ (mv_ ?_))))
     exact by (
     clear hK118
     refine b_ bin_add64 ?_
     refine as_ ?_
     refine WL.done ?_
     exact wr_ k114 iq ⟨(wrap64 (i42 + 1)), ⟨_, H, Ho41⟩, rfl, (St.pk HS [2, 3, 4, 5] [] rfl rfl)⟩ )
   refine wy_ (nB (bF c131)) (sr_ fun _ hK132 => ?_)
   refine ad_ hK132 ?_
   clear hK132
   exact by (
   refine WC.ret ?_
   obtain rfl := os H
   rw [hG39] at Ho41
   replace H : some _ = some _ := Ho41
   obtain rfl := os H
   exact fin1 Tryz.f95 rfl rfl hR_ ⟨rfl, HS.b⟩ )))))))))))))))
 refine dfg_ 9 (qT c11) underlying34 ?_
 refine blg_ 10 (qT c11) HSW HB 0 underlying3 (at34_1 (HSW.aO 0 rfl)).int ?_
 exact by (
 refine dg_ 11 (qT c11) (fun _ => Run.bin rfl rfl rfl bin_neq) ?_
 refine dg_ 12 (nB c10) (fun _ => Run.pickT rfl rfl (qT c11) rfl) ?_
 refine dp_ 13 (fun _ => Run.pickF rfl rfl (nB c10) rfl) ?_
 refine dm_ 14 ?_
 rcases eti_ H with ⟨c137, H⟩ | ⟨c137, H⟩
 · refine doTs_ 4 19 [15, 16, 17, 18] [20, 21, 22, 23] (qT c137) ?_
   refine dp_ 19 (fun _ => Run.pickT rfl rfl (qT c137) rfl) ?_
   refine dm_ 20 ?_
   exact by (
   refine doTs_ 6 25 [21, 22, 23, 24, 25, 26] [26, 27, 28, 29, 30, 31] rfl ?_
   refine dp_ 27 (fun _ => Run.pickT rfl rfl rfl rfl) ?_
   refine dm_ 28 ?_
   refine doTs_ 5 33 [29, 30, 31, 32, 33] [34, 35, 36, 37, 38] rfl ?_
   refine dp_ 34 (fun _ => Run.pickT rfl rfl rfl rfl) ?_
   refine dd_ ?_
   clear HB HSW
   refine via_ hK5 (wy_ rfl ?_)
   exact by (
   clear hK5
   refine sr_ fun _ hK263 => ?_
   refine ad_ hK263 ?_
   clear hK263
   obtain rfl := os H
   exact rt1 Tryz.f95 rfl rfl hR_ ⟨rfl, HS.b⟩ ))
 refine dfg_ 15 (qF c137) underlying34 ?_
 obtain ⟨A138, c139, hc140, le141, HS⟩ := HS.sO 0 rfl at34_3
 exact by (
 refine blg_ 16 (qF c137) HSW HB 0 underlying25 hc140 ?_
 obtain ⟨t142, ha143, H⟩ := bind_some H
 refine dcs_ HS HB 17 (w_on rfl rfl rfl (qF c137)) func169 (spec_MergesOk.runs k A138 c139 x0.f3 t142 _ (HS.getO 0 rfl) le141 ha143) (fun w144 HS HB => ?_)
 clear ha143
 refine dg_ 18 (qF c137) (fun _ => Run.not rfl rfl) ?_
 refine dp_ 19 (fun _ => Run.pickF rfl rfl (qF c137) rfl) ?_
 refine dm_ 20 ?_
 rcases eti_ H with ⟨c145, H⟩ | ⟨c145, H⟩
 · refine doTs_ 6 25 [21, 22, 23, 24, 25, 26] [26, 27, 28, 29, 30, 31] (nB (bF c145)) ?_
   exact by (
   refine dp_ 27 (fun _ => Run.pickT rfl rfl (nB (bF c145)) rfl) ?_
   refine dm_ 28 ?_
   refine doTs_ 5 33 [29, 30, 31, 32, 33] [34, 35, 36, 37, 38] rfl ?_
   refine dp_ 34 (fun _ => Run.pickT rfl rfl rfl rfl) ?_
   refine dd_ ?_
   clear HB HSW
   refine via_ hK5 (wy_ rfl ?_)
   clear hK5
   exact by (
   refine sr_ fun _ hK262 => ?_
   refine ad_ hK262 ?_
   clear hK262
   obtain rfl := os H
   exact rt1 Tryz.f95 rfl rfl hR_ ⟨rfl, HS.b⟩ ))
 refine dfg_ 21 (nB c145) underlying34 ?_
 obtain ⟨A146, c147, hc148, le149, HS⟩ := HS.sO 1 rfl at34_4
 refine blg_ 22 (nB c145) HSW HB 0 underlying26 hc148 ?_
 exact by (
 refine dg_ 23 (nB c145) (fun _ => Run.len (ts := #[]) rfl underlying26 rfl) ?_
 refine dh_ 24 (nB c145) HB (fun w_ hw_ => Run.loadS (cs := cs0) rfl rfl underlying34 rfl (by rw [el0]; kernel_rfl) (box_part ((HSW.below hw_).mu 0 rfl) part_all)) ?_
 obtain ⟨t150, ha151, H⟩ := bind_some H
 refine dcs_ HS HB 25 (w_on rfl rfl rfl (nB c145)) func118 (spec_Vocab.runs k cs0 x0 t150 _ (HS.getO 2 rfl) ha151) (fun w152 HS HB => ?_)
 clear ha151
 refine dg_ 26 (nB c145) (fun _ => Run.bin rfl rfl rfl bin_neq) ?_
 refine dp_ 27 (fun _ => Run.pickF rfl rfl (nB c145) rfl) ?_
 refine dm_ 28 ?_
 exact by (
 rcases eti_ H with ⟨c153, H⟩ | ⟨c153, H⟩
 · refine doTs_ 5 33 [29, 30, 31, 32, 33] [34, 35, 36, 37, 38] (qT c153) ?_
   refine dp_ 34 (fun _ => Run.pickT rfl rfl (qT c153) rfl) ?_
   refine dd_ ?_
   clear HB HSW
   refine via_ hK5 (wy_ rfl ?_)
   clear hK5
   refine sr_ fun _ hK261 => ?_
   exact by (
   refine ad_ hK261 ?_
   clear hK261
   obtain rfl := os H
   exact rt1 Tryz.f95 rfl rfl hR_ ⟨rfl, HS.b⟩ )
 refine dfg_ 29 (qF c153) underlying34 ?_
 obtain ⟨A154, c155, hc156, le157, HS⟩ := HS.sO 2 rfl at34_5
 refine blg_ 30 (qF c153) HSW HB 0 underlying27 hc156 ?_
 refine dg_ 31 (qF c153) (fun _ => Run.len (ts := #[]) rfl underlying27 rfl) ?_
 exact by (
 obtain ⟨t158, ha159, H⟩ := bind_some H
 refine dcs0_ HS HB 32 (w_on rfl rfl rfl (qF c153)) func96 (spec_l01In.calls (x0.f5.length : Int) 1 2 t158 _ ha159) (fun w160 HS HB => ?_)
 clear ha159
 refine dg_ 33 (qF c153) (fun _ => Run.not rfl rfl) ?_
 refine dp_ 34 (fun _ => Run.pickF rfl rfl (qF c153) rfl) ?_
 refine dd_ ?_
 clear HB HSW
 refine via_ hK5 ?_
 exact by (
 clear hK5
 rcases eti_ H with ⟨c161, H⟩ | ⟨c161, H⟩
 · refine wy_ (nB (bF c161)) (sr_ fun _ hK260 => ?_)
   refine ad_ hK260 ?_
   clear hK260
   obtain rfl := os H
   exact rt1 Tryz.f95 rfl rfl hR_ ⟨rfl, HS.b⟩
 refine wn_ (nB c161) (WC.skip (via_ hK4 (WC.seq fun K162 hK162 => ?_)))
 exact by (
 clear hK4
 refine sr_ fun _ hK163 => ?_
 refine ad_ hK163 ?_
 clear hK163
 refine WC.block ?_
 obtain ⟨G164, hG165, oc166, H, Ho167⟩ := open_G H
 let J169 := fun (i168 : Int) (E_ : Env) (W_ : World) => E_ = [(1, .pointer (some ⟨b2, 0, none⟩)), (3, vi i168)] ∧ St (fun _ => True) w W_ [boxM b2 cs0.toArray 34] [(cF k118 A154 x0.f5), (cF kS3 A146 x0.f4), (cF k114 A138 x0.f3), (kF k34 x0 cs0)] []
 have X170 : ∀ E_ W_, (∃ i168, G164 (Sum.inr i168) = some r ∧ J169 i168 E_ W_) → ∀ a, Fits a 108 E_ → K162 a W_ := by
   exact by (
   rintro E_ w171 ⟨i168, H, rfl, HS⟩
   rw [hG165] at H
   (try dsimp only at H)
   refine hK162 _ _ ?_
   clear hK162
   refine WC.seq fun K172 hK172 => ?_
   refine sr_ fun _ hK173 => ?_
   refine ad_ hK173 ?_
   exact by (
   clear hK173
   refine WC.block ?_
   obtain ⟨G174, hG175, oc176, H, Ho177⟩ := open_G H
   let J179 := fun (i178 : Int) (E_ : Env) (W_ : World) => E_ = [(1, .pointer (some ⟨b2, 0, none⟩)), (4, vi i178)] ∧ St (fun _ => True) w W_ [boxM b2 cs0.toArray 34] [(cF k118 A154 x0.f5), (cF kS3 A146 x0.f4), (cF k114 A138 x0.f3), (kF k34 x0 cs0)] []
   have X180 : ∀ E_ W_, (∃ i178, G174 (Sum.inr i178) = some r ∧ J179 i178 E_ W_) → ∀ a, Fits a 108 E_ → K172 a W_ := by
     rintro E_ w181 ⟨i178, H, rfl, HS⟩
     rw [hG175] at H
     (try dsimp only at H)
     exact by (
     refine hK172 _ _ ?_
     clear hK172
     refine WC.seq fun _ hK182 => ?_
     refine WC.drawS HS [] rfl rfl (fun w183 HS => ?_)
     have HB := Below.refl w183.heap.size w183
     have HSW := HS
     refine df_ 0 underlying34 ?_
     refine df_ 2 underlying34 ?_
     exact by (
     obtain ⟨A184, c185, hc186, le187, HS⟩ := HS.sO 3 rfl at34_6
     refine bl_ 1 HS (Below.refl _ _) 0 underlying28 hc186 ?_
     refine bl_ 3 HS (Below.refl _ _) 0 underlying3 (at34_0 (HS.aO 4 rfl)).int ?_
     obtain ⟨t188, ha189, H⟩ := bind_some H
     refine dcs_ HS HB 4 (w_none rfl) func172 (spec_GainOk.runs k A184 c185 x0.f6 x0.f0 t188 _ (HS.getO 0 rfl) le187 ha189) (fun w190 HS HB => ?_)
     clear ha189
     refine dm_ 5 ?_
     rcases eti_ H with ⟨c191, H⟩ | ⟨c191, H⟩
     · refine doFs_ 7 86 [6, 7, 8, 9, 10, 11, 12] [87, 88, 89, 90, 91, 92, 93] (bF c191) ?_
       exact by (
       refine dp_ 13 (fun _ => Run.pickF rfl rfl (bF c191) rfl) ?_
       refine dm_ 14 ?_
       refine doFs_ 11 95 [15, 16, 17, 18, 19, 20, 21, 22, 23, 24, 25] [96, 97, 98, 99, 100, 101, 102, 103, 104, 105, 106] rfl ?_
       refine dp_ 26 (fun _ => Run.pickF rfl rfl rfl rfl) ?_
       refine dp_ 27 (fun _ => Run.assign rfl rfl) ?_
       refine dd_ ?_
       clear HB HSW
       refine via_ hK182 ?_
       exact by (
       clear hK182
       obtain rfl := os H
       exact rt1 Tryz.f95 rfl rfl hR_ ⟨rfl, HS.b⟩ ))
     refine dfg_ 6 c191 underlying34 ?_
     refine dfg_ 8 c191 underlying34 ?_
     obtain ⟨A192, c193, hc194, le195, HS⟩ := HS.sO 4 rfl at34_8
     obtain ⟨A196, c197, hc198, le199, HS⟩ := HS.sO 5 rfl at34_9
     refine dh_ 7 c191 HB (fun w_ hw_ => Run.loadS (cs := [vi x0.f7.f0, .slice A192 x0.f7.f1.length c193, .slice A196 x0.f7.f2.length c197, vi x0.f7.f3, vi x0.f7.f4]) rfl rfl underlying30 rfl (by kernel_rfl) (box_part ((HSW.below hw_).mu 0 rfl) (part_cons (at34_7 ((HSW.below hw_).aO 3 rfl)).int (part_cons hc194 (part_cons hc198 (part_cons (at34_10 ((HSW.below hw_).aO 3 rfl)).int (part_cons (at34_11 ((HSW.below hw_).aO 3 rfl)).int part_nil))))))) ?_
     exact by (
     refine blg_ 9 c191 HSW HB 0 underlying3 (at34_0 (HSW.aO 3 rfl)).int ?_
     refine dh_ 10 c191 HB (fun w_ hw_ => Run.loadS (cs := cs0) rfl rfl underlying34 rfl (by rw [el0]; kernel_rfl) (box_part ((HSW.below hw_).mu 0 rfl) part_all)) ?_
     obtain ⟨t200, ha201, H⟩ := bind_some H
     refine dcs_ HS HB 11 (w_on rfl rfl rfl c191) func118 (spec_Vocab.runs k cs0 x0 t200 _ (HS.getO 6 rfl) ha201) (fun w202 HS HB => ?_)
     clear ha201
     obtain ⟨t203, ha204, H⟩ := bind_some H
     refine dcs_ HS HB 12 (w_on rfl rfl rfl c191) func173 (spec_l10Matrix.runs k x0.f7 A192 c193 A196 c197 x0.f0 t200 t203 _ (HS.getO 1 rfl) le195 (HS.getO 0 rfl) le199 ha204) (fun w205 HS HB => ?_)
     clear ha204
     exact by (
     refine dp_ 13 (fun _ => Run.pickT rfl rfl c191 rfl) ?_
     refine dm_ 14 ?_
     rcases eti_ H with ⟨c206, H⟩ | ⟨c206, H⟩
     · refine doFs_ 11 95 [15, 16, 17, 18, 19, 20, 21, 22, 23, 24, 25] [96, 97, 98, 99, 100, 101, 102, 103, 104, 105, 106] (bF c206) ?_
       refine dp_ 26 (fun _ => Run.pickF rfl rfl (bF c206) rfl) ?_
       refine dp_ 27 (fun _ => Run.assign rfl rfl) ?_
       refine dd_ ?_
       clear HB HSW
       exact by (
       refine via_ hK182 ?_
       clear hK182
       obtain rfl := os H
       exact rt1 Tryz.f95 rfl rfl hR_ ⟨rfl, HS.b⟩ )
     refine dfg_ 15 c206 underlying34 ?_
     refine dfg_ 17 c206 underlying34 ?_
     refine dfg_ 19 c206 underlying34 ?_
     refine dfg_ 21 c206 underlying34 ?_
     exact by (
     obtain ⟨A207, c208, hc209, le210, HS⟩ := HS.sO 6 rfl at34_12
     obtain ⟨A211, c212, hc213, le214, HS⟩ := HS.sO 7 rfl at34_13
     refine dh_ 16 c206 HB (fun w_ hw_ => Run.loadS (cs := [.slice A207 x0.f8.f0.length c208, .slice A211 x0.f8.f1.length c212]) rfl rfl underlying32 rfl (by kernel_rfl) (box_part ((HSW.below hw_).mu 0 rfl) (part_cons hc209 (part_cons hc213 part_nil)))) ?_
     refine blg_ 18 c206 HSW HB 0 underlying3 (at34_2 (HSW.aO 3 rfl)).int ?_
     refine blg_ 20 c206 HSW HB 0 underlying3 (at34_0 (HSW.aO 3 rfl)).int ?_
     refine blg_ 22 c206 HSW HB 0 underlying3 (at34_1 (HSW.aO 3 rfl)).int ?_
     obtain ⟨z215, H⟩ := if_some H
     refine dg_ 23 c206 (fun _ => Run.bin rfl rfl rfl (bin_quo64 z215)) ?_
     exact by (
     refine dg_ 24 c206 (fun _ => Run.bin rfl rfl rfl (bin_quo64 (show (2 : Int) ≠ 0 by decide))) ?_
     obtain ⟨t216, ha217, H⟩ := bind_some H
     refine dcs_ HS HB 25 (w_on rfl rfl rfl c206) func174 (spec_TurnsOk.runs k x0.f8 A207 c208 A211 c212 x0.f2 (wrap64 (Int.tdiv (wrap64 (Int.tdiv x0.f0 x0.f1)) 2)) t216 _ (HS.getO 1 rfl) le210 (HS.getO 0 rfl) le214 ha217) (fun w218 HS HB => ?_)
     clear ha217
     refine dp_ 26 (fun _ => Run.pickT rfl rfl c206 rfl) ?_
     refine dp_ 27 (fun _ => Run.assign rfl rfl) ?_
     refine dd_ ?_
     clear HB HSW
     exact by (
     refine via_ hK182 ?_
     clear hK182
     obtain rfl := os H
     exact rt1 Tryz.f95 rfl rfl hR_ ⟨rfl, HS.b⟩ )))))))
   clear hK172
   refine WC.loop (fun k_ E_ W_ => ∃ i178, (∃ o_, spec_ModelOk.l2 x0 k_ i178 = some o_ ∧ G174 o_ = some r) ∧ J179 i178 E_ W_) k ⟨0, ⟨_, H, Ho177⟩, rfl, HS⟩ (sb rfl) ?_
   rintro k_ E_ w220 ⟨i178, ⟨oc176, H, Ho177⟩, rfl, HS⟩
   rcases k_ with _ | k221
   · exact no_ H
   exact by (
   replace H : spec_ModelOk.b2 x0 (spec_ModelOk.l2 x0 k221) k221 i178 = some oc176 := H
   unfold spec_ModelOk.b2 at H
   refine WC.seq fun _ hK222 => ?_
   refine sr_ fun _ hK223 => ?_
   refine mv_ ?_
   refine v_ (fa_ underlying34) ?_
   refine v_ (lb_ (HS.mu 0 rfl) underlying27 hc156) ?_
   refine ln_ underlying27 ?_
   exact by (
   refine b_ bin_lss ?_
   refine dn_ hK223 ?_
   clear hK223
   rcases eti_ H with ⟨c224, H⟩ | ⟨c224, H⟩
   · refine wn_ (dF c224) (WC.exit ?_)
     obtain rfl := os H
     exact wv_ iq X180 ⟨i178, Ho177, rfl, HS⟩
   refine wy_ (dT c224) (WC.skip (via_ hK222 (WC.seq fun _ hK225 => ?_)))
   exact by (
   clear hK222
   refine WC.block (WC.seq fun _ hK226 => ?_)
   refine WC.drawS HS [] rfl rfl (fun w227 HS => ?_)
   have HB := Below.refl w227.heap.size w227
   have HSW := HS
   refine df_ 0 underlying34 ?_
   refine dm_ 2 ?_
   refine df_ 5 underlying34 ?_
   exact by (
   refine bl_ 1 HS (Below.refl _ _) 0 underlying27 hc156 ?_
   obtain ⟨⟨q228, q229⟩, H⟩ := if_some H
   obtain ⟨ad230, rfl⟩ := C_open (HS.getO 0 rfl) (lenpos q228 q229)
   refine di_ 3 underlying27 32 q228 q229 ?_
   obtain ⟨e231, el232, HS⟩ := HS.elO 0 rfl (by decide) o118 i178 q228 q229
   replace HSW := HS
   replace HS := HS.deriveO (p := (kF k118 (x0.f5.getD i178.toNat o118) e231)) (fun W_ hO_ hN_ => hO_.1.1)
   refine dt_ 4 (Below.refl _ _) (fun w_ hw_ => Run.loadS (cs := e231) rfl rfl underlying118 rfl (by rw [el232]; kernel_rfl) ((HS.below hw_).getO 1 rfl).2) ?_
   exact by (
   refine bl_ 6 HS (Below.refl _ _) 0 underlying3 (at34_0 (HS.aO 5 rfl)).int ?_
   obtain ⟨t233, ha234, H⟩ := bind_some H
   refine dcs_ HS HB 7 (w_none rfl) func171 (spec_LayerOk.runs k221 e231 (x0.f5.getD i178.toNat o118) x0.f0 t233 _ (HS.getO 0 rfl) ha234) (fun w235 HS HB => ?_)
   clear ha234
   refine dp_ 8 (fun _ => Run.not rfl rfl) ?_
   refine dd_ ?_
   clear HB HSW
   refine via_ hK226 ?_
   exact by (
   clear hK226
   rcases ite_ H with ⟨c236, H⟩ | ⟨c236, H⟩
   · refine wn_ (nB c236) (WC.skip (via_ hK225 (rg_ (mv_ ?_))))
     clear hK225
     refine b_ bin_add64 ?_
     refine as_ ?_
     refine WL.done ?_
     exact wr_ k221 iq ⟨(wrap64 (i178 + 1)), ⟨_, H, Ho177⟩, rfl, (St.pk HS [2, 3, 4, 5] [] rfl rfl)⟩
   exact by (
   refine wy_ (nB (bF c236)) (sr_ fun _ hK237 => ?_)
   refine ad_ hK237 ?_
   clear hK237
   refine WC.ret ?_
   obtain rfl := os H
   rw [hG175] at Ho177
   replace H : some _ = some _ := Ho177
   obtain rfl := os H
   exact fin1 Tryz.f95 rfl rfl hR_ ⟨rfl, HS.b⟩ )))))))))
 exact by (
 clear hK162
 refine WC.loop (fun k_ E_ W_ => ∃ i168, (∃ o_, spec_ModelOk.l3 x0 k_ i168 = some o_ ∧ G164 o_ = some r) ∧ J169 i168 E_ W_) k ⟨0, ⟨_, H, Ho167⟩, rfl, HS⟩ (sb rfl) ?_
 rintro k_ E_ w239 ⟨i168, ⟨oc166, H, Ho167⟩, rfl, HS⟩
 rcases k_ with _ | k240
 · exact no_ H
 replace H : spec_ModelOk.b3 x0 (spec_ModelOk.l3 x0 k240) k240 i168 = some oc166 := H
 unfold spec_ModelOk.b3 at H
 refine WC.seq fun _ hK241 => ?_
 exact by (
 refine sr_ fun _ hK242 => ?_
 refine mv_ ?_
 refine v_ (fa_ underlying34) ?_
 refine v_ (lb_ (HS.mu 0 rfl) underlying26 hc148) ?_
 refine ln_ underlying26 ?_
 refine b_ bin_lss ?_
 refine dn_ hK242 ?_
 clear hK242
 exact by (
 rcases eti_ H with ⟨c243, H⟩ | ⟨c243, H⟩
 · refine wn_ (dF c243) (WC.exit ?_)
   obtain rfl := os H
   exact wv_ iq X170 ⟨i168, Ho167, rfl, HS⟩
 refine wy_ (dT c243) (WC.skip (via_ hK241 (WC.seq fun _ hK244 => ?_)))
 clear hK241
 refine WC.block (WC.seq fun _ hK245 => ?_)
 refine WC.drawS HS [] rfl rfl (fun w246 HS => ?_)
 exact by (
 have HB := Below.refl w246.heap.size w246
 have HSW := HS
 refine df_ 0 underlying34 ?_
 refine dm_ 2 ?_
 refine df_ 6 underlying34 ?_
 refine bl_ 1 HS (Below.refl _ _) 0 underlying26 hc148 ?_
 obtain ⟨⟨q247, q248⟩, H⟩ := if_some H
 obtain ⟨ad249, rfl⟩ := C_open (HS.getO 1 rfl) (lenpos q247 q248)
 exact by (
 refine di_ 3 underlying26 1 q247 q248 ?_
 obtain ⟨A250, c251, le252, HS⟩ := HS.slO 1 rfl i168 q247 q248
 replace HSW := HS
 refine dt_ 4 (Below.refl _ _) (fun w_ hw_ => Run.load rfl rfl underlying28 rfl ((HS.below hw_).getO 1 rfl)) ?_
 refine dp_ 5 (fun _ => Run.len (ts := #[]) rfl underlying28 rfl) ?_
 refine bl_ 7 HS (Below.refl _ _) 0 underlying3 (at34_0 (HS.aO 5 rfl)).int ?_
 refine dp_ 8 (fun _ => Run.bin rfl rfl rfl bin_neq) ?_
 refine dm_ 9 ?_
 exact by (
 rcases eti_ H with ⟨c253, H⟩ | ⟨c253, H⟩
 · refine doTs_ 7 56 [10, 11, 12, 13, 14, 15, 16] [57, 58, 59, 60, 61, 62, 63] (qT c253) ?_
   refine dp_ 17 (fun _ => Run.pickT rfl rfl (qT c253) rfl) ?_
   refine dd_ ?_
   clear HB HSW
   refine via_ hK245 (wy_ rfl ?_)
   clear hK245
   refine sr_ fun _ hK259 => ?_
   exact by (
   refine ad_ hK259 ?_
   clear hK259
   refine WC.ret ?_
   obtain rfl := os H
   rw [hG165] at Ho167
   replace H : some _ = some _ := Ho167
   obtain rfl := os H
   exact fin1 Tryz.f95 rfl rfl hR_ ⟨rfl, HS.b⟩ )
 exact by (
 refine dfg_ 10 (qF c253) underlying34 ?_
 refine dg_ 12 (qF c253) (fun _ => Run.move rfl rfl) ?_
 refine blg_ 11 (qF c253) HS (Below.refl _ _) 0 underlying26 hc148 ?_
 refine dg_ 13 (qF c253) (fun _ => Run.indexAddr rfl rfl rfl underlying26 (sz := 1) (by kernel_rfl) q247 q248) ?_
 refine dh_ 14 (qF c253) (Below.refl _ _) (fun w_ hw_ => Run.load rfl rfl underlying28 rfl ((HS.below hw_).getO 1 rfl)) ?_
 obtain ⟨t254, ha255, H⟩ := bind_some H
 refine dcs_ HS HB 15 (w_on rfl rfl rfl (qF c253)) func170 (spec_l05All.runs k240 A250 c251 (x0.f4.getD i168.toNat []) (-127) 127 t254 _ (HS.getO 0 rfl) le252 ha255) (fun w256 HS HB => ?_)
 clear ha255
 exact by (
 refine dg_ 16 (qF c253) (fun _ => Run.not rfl rfl) ?_
 refine dp_ 17 (fun _ => Run.pickF rfl rfl (qF c253) rfl) ?_
 refine dd_ ?_
 clear HB HSW
 refine via_ hK245 ?_
 clear hK245
 rcases ite_ H with ⟨c257, H⟩ | ⟨c257, H⟩
 · refine wn_ (nB c257) (WC.skip (via_ hK244 (rg_ (mv_ ?_))))
   exact by (
   clear hK244
   refine b_ bin_add64 ?_
   refine as_ ?_
   refine WL.done ?_
   exact wr_ k240 iq ⟨(wrap64 (i168 + 1)), ⟨_, H, Ho167⟩, rfl, (St.pk HS [2, 3, 4, 5] [] rfl rfl)⟩ )
 refine wy_ (nB (bF c257)) (sr_ fun _ hK258 => ?_)
 refine ad_ hK258 ?_
 clear hK258
 exact by (
 refine WC.ret ?_
 obtain rfl := os H
 rw [hG165] at Ho167
 replace H : some _ = some _ := Ho167
 obtain rfl := os H
 exact fin1 Tryz.f95 rfl rfl hR_ ⟨rfl, HS.b⟩ )))))))))))))))))))
def impl_LayerOk.b0 (x0 : S118) (a1 : Int) (rec_ : Int → Option (Bool ⊕ Int)) (k100 : Nat) (i74 : Int) : Option (Bool ⊕ Int) := (if i74 < (4 : Int) then (if 0 ≤ i74 ∧ i74 < (4 : Int) then ((impl_withinBudget.g k100 (⟨(([x0.f1, x0.f2, x0.f3, x0.f4]).getD i74.toNat o30).f0, (([x0.f1, x0.f2, x0.f3, x0.f4]).getD i74.toNat o30).f1, (([x0.f1, x0.f2, x0.f3, x0.f4]).getD i74.toNat o30).f2, (([x0.f1, x0.f2, x0.f3, x0.f4]).getD i74.toNat o30).f3, (([x0.f1, x0.f2, x0.f3, x0.f4]).getD i74.toNat o30).f4⟩ : S30) a1 a1).bind fun t123 => (if t123 = true then (rec_ (wrap64 (i74 + 1))) else (some (Sum.inl false)))) else none) else (some (Sum.inr i74)))
def impl_LayerOk.l0 (x0 : S118) (a1 : Int) : Nat → Int → Option (Bool ⊕ Int)
 | 0, _ => none
 | k + 1, i74 => impl_LayerOk.b0 x0 a1 (impl_LayerOk.l0 x0 a1 k) k i74
def impl_LayerOk.g (k : Nat) (x0 : S118) (a1 : Int) : Option Bool := ((impl_GainOk.g k x0.f0 a1).bind fun t15 => (if t15 = true then ((impl_GainOk.g k x0.f5 a1).bind fun t23 => (if t23 = true then ((impl_isWidth.f (x0.f6.f1.length : Int)).bind fun t27 => (if t27 = true then ((impl_LayerOk.l0 x0 a1 k 0).bind (fun oc98 => match oc98 with | .inl r_ => some r_ | .inr i74 => ((impl_withinBudget.g k x0.f6 a1 (x0.f6.f1.length : Int)).bind fun t83 => (if t83 = true then ((impl_withinBudget.g k x0.f7 (x0.f6.f1.length : Int) a1).bind fun t95 => (some t95)) else (some false))))) else (some false))) else (some false))) else (some false)))
theorem impl_LayerOk.runs (k : Nat) (cs0 : List Value) (x0 : S118) (a1 : Int) (r : Bool) (w : World) (hk0 : k118.K w x0 cs0) (H : impl_LayerOk.g k x0 a1 = some r) :
   Calls prog 160 #[.agg cs0.toArray, vi a1] w fun e w' => e = .returned (.bool r) ∧ Below w.heap.size w w' := by
 have el0 : cs0.length = 32 := k118.K_len hk0
 unfold impl_LayerOk.g at H
 have HS : St (fun _ => True) w w [] [(kF k118 x0 cs0)] [] := St.start (foot_cons (foot_K h118 hk0) foot_nil)
 refine cw_ (n := 61) func160 fun R_ hR_ => ?_
 refine sr_ fun _ hK1 => ?_
 refine bo_ HS (fun b2 w3 hb2 HS => ?_)
 refine ad_ hK1 ?_
 refine sr_ fun _ hK4 => ?_
 refine v_ (fa_ underlying118) ?_
 refine v_ (fa_ underlying30) ?_
 obtain ⟨A5, c6, hc7, le8, HS⟩ := HS.sO 0 rfl at118_23
 refine v_ (lb_ (HS.mu 0 rfl) underlying26 hc7) ?_
 refine ln_ underlying26 ?_
 refine ad_ hK4 ?_
 refine WC.seq fun _ hK9 => ?_
 refine sr_ fun _ hK10 => ?_
 refine v_ (fa_ underlying118) ?_
 obtain ⟨A11, c12, hc13, le14, HS⟩ := HS.sO 1 rfl at118_0
 refine v_ (lb_ (HS.mu 0 rfl) underlying28 hc13) ?_
 refine mv_ ?_
 obtain ⟨t15, ha16, H⟩ := bind_some H
 refine cs_ HS func161 (impl_GainOk.runs k A11 c12 x0.f0 a1 t15 _ (HS.getO 0 rfl) le14 ha16) (fun w17 HS => ?_)
 clear ha16
 refine nt_ ?_
 refine mv_ ?_
 rcases eti_ H with ⟨c18, H⟩ | ⟨c18, H⟩
 · refine off_ (c' := true) (nB (bF c18)) ?_
   refine WL.know 17 (nB (bF c18)) ?_
   refine fast_ ?_
   refine via_ hK10 (wy_ rfl ?_)
   refine sr_ fun _ hK130 => ?_
   refine ad_ hK130 ?_
   obtain rfl := os H
   exact rt1 Tryz.f160 rfl rfl hR_ ⟨rfl, HS.b⟩
 refine on_ (nB c18) (v_ (fa_ underlying118) ?_)
 refine on_ (nB c18) ?_
 obtain ⟨A19, c20, hc21, le22, HS⟩ := HS.sO 2 rfl at118_21
 refine v_ (lb_ (HS.mu 0 rfl) underlying28 hc21) ?_
 refine on_ (nB c18) (mv_ ?_)
 refine on_ (nB c18) ?_
 obtain ⟨t23, ha24, H⟩ := bind_some H
 refine cs_ HS func161 (impl_GainOk.runs k A19 c20 x0.f5 a1 t23 _ (HS.getO 0 rfl) le22 ha24) (fun w25 HS => ?_)
 clear ha24
 refine on_ (nB c18) (nt_ ?_)
 refine v_ (Run.pickF rfl rfl (nB c18) rfl) ?_
 refine mv_ ?_
 rcases eti_ H with ⟨c26, H⟩ | ⟨c26, H⟩
 · refine off_ (c' := true) (nB (bF c26)) ?_
   refine WL.know 24 (nB (bF c26)) ?_
   refine fast_ ?_
   refine via_ hK10 (wy_ rfl ?_)
   refine sr_ fun _ hK129 => ?_
   refine ad_ hK129 ?_
   obtain rfl := os H
   exact rt1 Tryz.f160 rfl rfl hR_ ⟨rfl, HS.b⟩
 refine on_ (nB c26) (mv_ ?_)
 refine on_ (nB c26) ?_
 obtain ⟨t27, ha28, H⟩ := bind_some H
 refine cs0_ HS func143 (impl_isWidth.calls (x0.f6.f1.length : Int) t27 _ ha28) (fun w29 HS => ?_)
 clear ha28
 refine on_ (nB c26) (nt_ ?_)
 refine v_ (Run.pickF rfl rfl (nB c26) rfl) ?_
 refine dn_ hK10 ?_
 rcases eti_ H with ⟨c30, H⟩ | ⟨c30, H⟩
 · refine wy_ (nB (bF c30)) (sr_ fun _ hK128 => ?_)
   refine ad_ hK128 ?_
   obtain rfl := os H
   exact rt1 Tryz.f160 rfl rfl hR_ ⟨rfl, HS.b⟩
 refine wn_ (nB c30) (WC.skip (via_ hK9 (WC.seq fun K31 hK31 => ?_)))
 refine sr_ fun _ hK32 => ?_
 refine v_ (fa_ underlying118) ?_
 obtain ⟨A33, c34, hc35, le36, HS⟩ := HS.sO 3 rfl at118_2
 obtain ⟨A37, c38, hc39, le40, HS⟩ := HS.sO 4 rfl at118_3
 refine v_ (ls_ (HS.mu 0 rfl) underlying30 (part_cons (at118_1 (HS.aO 5 rfl)).int (part_cons hc35 (part_cons hc39 (part_cons (at118_4 (HS.aO 5 rfl)).int (part_cons (at118_5 (HS.aO 5 rfl)).int part_nil)))))) ?_
 refine v_ (fa_ underlying118) ?_
 obtain ⟨A41, c42, hc43, le44, HS⟩ := HS.sO 5 rfl at118_7
 obtain ⟨A45, c46, hc47, le48, HS⟩ := HS.sO 6 rfl at118_8
 refine v_ (ls_ (HS.mu 0 rfl) underlying30 (part_cons (at118_6 (HS.aO 7 rfl)).int (part_cons hc43 (part_cons hc47 (part_cons (at118_9 (HS.aO 7 rfl)).int (part_cons (at118_10 (HS.aO 7 rfl)).int part_nil)))))) ?_
 refine v_ (fa_ underlying118) ?_
 obtain ⟨A49, c50, hc51, le52, HS⟩ := HS.sO 7 rfl at118_12
 obtain ⟨A53, c54, hc55, le56, HS⟩ := HS.sO 8 rfl at118_13
 refine v_ (ls_ (HS.mu 0 rfl) underlying30 (part_cons (at118_11 (HS.aO 9 rfl)).int (part_cons hc51 (part_cons hc55 (part_cons (at118_14 (HS.aO 9 rfl)).int (part_cons (at118_15 (HS.aO 9 rfl)).int part_nil)))))) ?_
 refine v_ (fa_ underlying118) ?_
 obtain ⟨A57, c58, hc59, le60, HS⟩ := HS.sO 9 rfl at118_17
 obtain ⟨A61, c62, hc63, le64, HS⟩ := HS.sO 10 rfl at118_18
 refine v_ (ls_ (HS.mu 0 rfl) underlying30 (part_cons (at118_16 (HS.aO 11 rfl)).int (part_cons hc59 (part_cons hc63 (part_cons (at118_19 (HS.aO 11 rfl)).int (part_cons (at118_20 (HS.aO 11 rfl)).int part_nil)))))) ?_
 refine WL.litN HS (sz := 5) (z := (.agg #[vi 0, sn, sn, vi 0, vi 0])) rfl rfl (by decide) rfl [[vi x0.f1.f0, .slice A33 x0.f1.f1.length c34, .slice A37 x0.f1.f2.length c38, vi x0.f1.f3, vi x0.f1.f4], [vi x0.f2.f0, .slice A41 x0.f2.f1.length c42, .slice A45 x0.f2.f2.length c46, vi x0.f2.f3, vi x0.f2.f4], [vi x0.f3.f0, .slice A49 x0.f3.f1.length c50, .slice A53 x0.f3.f2.length c54, vi x0.f3.f3, vi x0.f3.f4], [vi x0.f4.f0, .slice A57 x0.f4.f1.length c58, .slice A61 x0.f4.f2.length c62, vi x0.f4.f3, vi x0.f4.f4]] ⟨⟨rfl, _, rfl, rfl, rfl⟩, ⟨⟨rfl, _, rfl, rfl, rfl⟩, ⟨⟨rfl, _, rfl, rfl, rfl⟩, ⟨⟨rfl, _, rfl, rfl, rfl⟩, trivial⟩⟩⟩⟩ rfl underlying127 (by kernel_rfl) (by decide) (by decide) (fun v65 w66 HS => ?_)
 replace HS := HS.deriveO (p := (rF k30 [x0.f1, x0.f2, x0.f3, x0.f4] (List.flatten [[vi x0.f1.f0, .slice A33 x0.f1.f1.length c34, .slice A37 x0.f1.f2.length c38, vi x0.f1.f3, vi x0.f1.f4], [vi x0.f2.f0, .slice A41 x0.f2.f1.length c42, .slice A45 x0.f2.f2.length c46, vi x0.f2.f3, vi x0.f2.f4], [vi x0.f3.f0, .slice A49 x0.f3.f1.length c50, .slice A53 x0.f3.f2.length c54, vi x0.f3.f3, vi x0.f3.f4], [vi x0.f4.f0, .slice A57 x0.f4.f1.length c58, .slice A61 x0.f4.f2.length c62, vi x0.f4.f3, vi x0.f4.f4]]))) (fun W_ hO_ hN_ => reps_lit ⟨(k30_mk _ x0.f1 (le36) hO_.2.2.2.2.2.2.2.1 (le40) hO_.2.2.2.2.2.2.1), ⟨(k30_mk _ x0.f2 (le44) hO_.2.2.2.2.2.1 (le48) hO_.2.2.2.2.1), ⟨(k30_mk _ x0.f3 (le52) hO_.2.2.2.1 (le56) hO_.2.2.1), ⟨(k30_mk _ x0.f4 (le60) hO_.2.1 (le64) hO_.1), trivial⟩⟩⟩⟩)
 obtain ⟨A67, c68, rfl⟩ := row_slice (HS.mu 0 rfl)
 refine ln_ underlying127 ?_
 refine mv_ ?_
 refine dn_ hK32 (WC.block ?_)
 have le69 := row_le (HS.mu 0 rfl)
 replace HS := HS.freezeO 0 (p := (fun W => k30.C W A67 4 ([x0.f1, x0.f2, x0.f3, x0.f4]))) rfl (fun W_ hm_ h_ => row_C (by simp) hm_ h_.1)
 dsimp only [List.eraseIdx] at HS
 obtain ⟨G70, hG71, oc72, H, Ho73⟩ := open_G H
 let J75 := fun (i74 : Int) (E_ : Env) (W_ : World) => E_ = [(1, vi a1), (2, .pointer (some ⟨b2, 0, none⟩)), (5, vi (x0.f6.f1.length : Int)), (37, .slice A67 4 c68), (38, vi (4 : Int)), (39, vi i74)] ∧ St (fun _ => True) w W_ [boxM b2 cs0.toArray 118] [(fun W => k30.C W A67 4 ([x0.f1, x0.f2, x0.f3, x0.f4])), (cF kS3 A61 x0.f4.f2), (cF kS3 A57 x0.f4.f1), (cF kS3 A53 x0.f3.f2), (cF kS3 A49 x0.f3.f1), (cF kS3 A45 x0.f2.f2), (cF kS3 A41 x0.f2.f1), (cF kS3 A37 x0.f1.f2), (cF kS3 A33 x0.f1.f1), (cF kI A19 x0.f5), (cF kI A11 x0.f0), (cF kS3 A5 x0.f6.f1), (kF k118 x0 cs0)] []
 have X76 : ∀ E_ W_, (∃ i74, G70 (Sum.inr i74) = some r ∧ J75 i74 E_ W_) → ∀ a, Fits a 61 E_ → K31 a W_ := by
   rintro E_ w77 ⟨i74, H, rfl, HS⟩
   rw [hG71] at H
   (try dsimp only at H)
   refine hK31 _ _ ?_
   refine sr_ fun _ hK78 => ?_
   refine v_ (fa_ underlying118) ?_
   obtain ⟨A79, c80, hc81, le82, HS⟩ := HS.sO 12 rfl at118_24
   refine v_ (ls_ (HS.mu 0 rfl) underlying30 (part_cons (at118_22 (HS.aO 13 rfl)).int (part_cons hc7 (part_cons hc81 (part_cons (at118_25 (HS.aO 13 rfl)).int (part_cons (at118_26 (HS.aO 13 rfl)).int part_nil)))))) ?_
   refine mv_ ?_
   refine mv_ ?_
   obtain ⟨t83, ha84, H⟩ := bind_some H
   refine cs_ HS func162 (impl_withinBudget.runs k x0.f6 A5 c6 A79 c80 a1 (x0.f6.f1.length : Int) t83 _ (HS.getO 12 rfl) le8 (HS.getO 0 rfl) le82 ha84) (fun w85 HS => ?_)
   clear ha84
   refine mv_ ?_
   rcases eti_ H with ⟨c86, H⟩ | ⟨c86, H⟩
   · refine off_ (c' := false) (bF c86) ?_
     refine WL.know 54 (bF c86) ?_
     refine fast_ ?_
     refine via_ hK78 ?_
     obtain rfl := os H
     exact rt1 Tryz.f160 rfl rfl hR_ ⟨rfl, HS.b⟩
   refine on_ c86 ?_
   refine v_ (fa_ underlying118) ?_
   refine on_ c86 ?_
   obtain ⟨A87, c88, hc89, le90, HS⟩ := HS.sO 13 rfl at118_28
   obtain ⟨A91, c92, hc93, le94, HS⟩ := HS.sO 14 rfl at118_29
   refine v_ (ls_ (HS.mu 0 rfl) underlying30 (part_cons (at118_27 (HS.aO 15 rfl)).int (part_cons hc89 (part_cons hc93 (part_cons (at118_30 (HS.aO 15 rfl)).int (part_cons (at118_31 (HS.aO 15 rfl)).int part_nil)))))) ?_
   refine on_ c86 ?_
   refine mv_ ?_
   refine on_ c86 ?_
   refine mv_ ?_
   refine on_ c86 ?_
   obtain ⟨t95, ha96, H⟩ := bind_some H
   refine cs_ HS func162 (impl_withinBudget.runs k x0.f7 A87 c88 A91 c92 (x0.f6.f1.length : Int) a1 t95 _ (HS.getO 1 rfl) le90 (HS.getO 0 rfl) le94 ha96) (fun w97 HS => ?_)
   clear ha96
   refine v_ (Run.pickT rfl rfl c86 rfl) ?_
   refine ad_ hK78 ?_
   obtain rfl := os H
   exact rt1 Tryz.f160 rfl rfl hR_ ⟨rfl, HS.b⟩
 clear hK31
 refine WC.loop (fun k_ E_ W_ => ∃ i74, (∃ o_, impl_LayerOk.l0 x0 a1 k_ i74 = some o_ ∧ G70 o_ = some r) ∧ J75 i74 E_ W_) k ⟨0, ⟨_, H, Ho73⟩, rfl, (St.pk HS [0, 2, 3, 4, 5, 6, 7, 8, 9, 10, 11, 12, 13] [] rfl rfl)⟩ (sb rfl) ?_
 rintro k_ E_ w99 ⟨i74, ⟨oc72, H, Ho73⟩, rfl, HS⟩
 rcases k_ with _ | k100
 · exact no_ H
 replace H : impl_LayerOk.b0 x0 a1 (impl_LayerOk.l0 x0 a1 k100) k100 i74 = some oc72 := H
 unfold impl_LayerOk.b0 at H
 refine sr_ fun _ hK101 => ?_
 refine b_ bin_lss ?_
 refine dn_ hK101 (WC.seq fun _ hK102 => ?_)
 rcases eti_ H with ⟨c103, H⟩ | ⟨c103, H⟩
 · refine wn_ (dF c103) (WC.exit ?_)
   obtain rfl := os H
   exact wv_ iq X76 ⟨i74, Ho73, rfl, HS⟩
 refine wy_ (dT c103) (WC.skip (via_ hK102 (WC.seq fun _ hK104 => ?_)))
 refine WC.block (sr_ fun _ hK105 => ?_)
 obtain ⟨⟨q106, q107⟩, H⟩ := if_some H
 obtain ⟨ad108, rfl⟩ := C_open (HS.getO 0 rfl) (lenpos q106 q107)
 refine v_ (ia_ underlying127 5 q106 q107) ?_
 obtain ⟨e109, el110, HS⟩ := HS.elO 0 rfl (by decide) o30 i74 q106 q107
 obtain ⟨A111, c112, hc113, le114, HS⟩ := HS.eO 0 rfl at30_1
 obtain ⟨A115, c116, hc117, le118, HS⟩ := HS.eO 1 rfl at30_2
 refine v_ (Run.loadS (cs := [vi ((([x0.f1, x0.f2, x0.f3, x0.f4]).getD i74.toNat o30).f0), .slice A111 ((([x0.f1, x0.f2, x0.f3, x0.f4]).getD i74.toNat o30).f1.length) c112, .slice A115 ((([x0.f1, x0.f2, x0.f3, x0.f4]).getD i74.toNat o30).f2.length) c116, vi ((([x0.f1, x0.f2, x0.f3, x0.f4]).getD i74.toNat o30).f3), vi ((([x0.f1, x0.f2, x0.f3, x0.f4]).getD i74.toNat o30).f4)]) rfl rfl underlying30 rfl (by kernel_rfl) (cells_part (HS.getO 2 rfl).2 (part_cons (at30_0 (AtK.whole (HS.getO 2 rfl).1)).int (part_cons hc113 (part_cons hc117 (part_cons (at30_3 (AtK.whole (HS.getO 2 rfl).1)).int (part_cons (at30_4 (AtK.whole (HS.getO 2 rfl).1)).int part_nil))))))) ?_
 refine WL.alloc HS (v := .agg #[vi 0, sn, sn, vi 0, vi 0]) (cs := #[vi 0, sn, sn, vi 0, vi 0]) rfl rfl (by decide) rfl (by kernel_rfl) rfl (fun b119 w120 hb119 HS => ?_)
 refine WL.storeW HS 0 rfl rfl rfl rfl rfl rfl (oneL rfl) (by kernel_rfl) rfl (fun w121 HS => ?_)
 dsimp only [List.set] at HS
 refine dn_ hK105 (sr_ fun _ hK122 => ?_)
 refine v_ (ls_ (HS.mu 0 rfl) underlying30 part_all) ?_
 refine mv_ ?_
 refine mv_ ?_
 obtain ⟨t123, ha124, H⟩ := bind_some H
 refine cs_ HS func162 (impl_withinBudget.runs k100 (⟨(([x0.f1, x0.f2, x0.f3, x0.f4]).getD i74.toNat o30).f0, (([x0.f1, x0.f2, x0.f3, x0.f4]).getD i74.toNat o30).f1, (([x0.f1, x0.f2, x0.f3, x0.f4]).getD i74.toNat o30).f2, (([x0.f1, x0.f2, x0.f3, x0.f4]).getD i74.toNat o30).f3, (([x0.f1, x0.f2, x0.f3, x0.f4]).getD i74.toNat o30).f4⟩ : S30) A111 c112 A115 c116 a1 a1 t123 _ (HS.getO 1 rfl) le114 (HS.getO 0 rfl) le118 ha124) (fun w125 HS => ?_)
 clear ha124
 refine nt_ ?_
 refine dn_ hK122 ?_
 rcases ite_ H with ⟨c126, H⟩ | ⟨c126, H⟩
 · refine wn_ (nB c126) (WC.skip (via_ hK104 (rg_ (b_ bin_add64 ?_))))
   refine mv_ ?_
   refine WL.done ?_
   exact wr_ k100 iq ⟨(wrap64 (i74 + 1)), ⟨_, H, Ho73⟩, rfl, (St.pk (St.forget HS 0 rfl) [3, 4, 5, 6, 7, 8, 9, 10, 11, 12, 13, 14, 15] [] rfl rfl)⟩
 refine wy_ (nB (bF c126)) (sr_ fun _ hK127 => ?_)
 refine ad_ hK127 ?_
 refine WC.ret ?_
 obtain rfl := os H
 rw [hG71] at Ho73
 replace H : some _ = some _ := Ho73
 obtain rfl := os H
 exact fin1 Tryz.f160 rfl rfl hR_ ⟨rfl, HS.b⟩
def impl_Vocab.g (k : Nat) (x0 : S34) : Option Int := (some (wrap64 (256 + (x0.f3.length : Int))))
theorem impl_Vocab.runs (k : Nat) (cs0 : List Value) (x0 : S34) (r : Int) (w : World) (hk0 : k34.K w x0 cs0) (H : impl_Vocab.g k x0 = some r) :
   Calls prog 45 #[.agg cs0.toArray] w fun e w' => e = .returned (vi r) ∧ Below w.heap.size w w' := by
 have el0 : cs0.length = 14 := k34.K_len hk0
 unfold impl_Vocab.g at H
 have HS : St (fun _ => True) w w [] [(kF k34 x0 cs0)] [] := St.start (foot_cons (foot_K h34 hk0) foot_nil)
 refine cw_ (n := 7) func45 fun R_ hR_ => ?_
 refine sr_ fun _ hK1 => ?_
 refine bo_ HS (fun b2 w3 hb2 HS => ?_)
 refine ad_ hK1 ?_
 refine sr_ fun _ hK4 => ?_
 refine v_ (fa_ underlying34) ?_
 obtain ⟨A5, c6, hc7, le8, HS⟩ := HS.sO 0 rfl at34_3
 refine v_ (lb_ (HS.mu 0 rfl) underlying25 hc7) ?_
 refine ln_ underlying25 ?_
 refine b_ bin_add64 ?_
 refine ad_ hK4 ?_
 obtain rfl := os H
 exact rt1 Tryz.f45 rfl rfl hR_ ⟨rfl, HS.b⟩
def impl_sizesOf_1.g (k : Nat) (a0 : Int) (l1 : List Int) : Option Int := (if a0 < 256 then (some 1) else (if 0 ≤ (wrap64 (a0 - 256)) ∧ (wrap64 (a0 - 256)) < (l1.length : Int) then (some (l1.getD (wrap64 (a0 - 256)).toNat 0)) else none))
theorem impl_sizesOf_1.runs (k : Nat) (a0 : Int) (b1 : Nat) (A1 : Option Addr) (c1 : Nat) (l1 : List Int) (r : Int) (w : World) (hr1 : kI.C w A1 l1.length l1) (hc1 : l1.length ≤ c1) (hb1 : w.heap[b1]? = some (.cells #[.slice A1 l1.length c1] 28 (0, 0))) (H : impl_sizesOf_1.g k a0 l1 = some r) :
   Calls prog 266 #[vi a0, .pointer (some ⟨b1, 0, none⟩)] w fun e w' => e = .returned (vi r) ∧ Below w.heap.size w w' := by
 unfold impl_sizesOf_1.g at H
 have HS : St (fun _ => True) w w [] [(cF kI A1 l1), (fun W => W.heap[b1]? = some (.cells #[.slice A1 l1.length c1] 28 (0, 0)))] [] := St.start (foot_cons (foot_C (Kd.heap_int _) hr1) (foot_cons (foot_rob hb1) foot_nil))
 refine cw_ (n := 11) func266 fun R_ hR_ => ?_
 refine sr_ fun _ hK1 => ?_
 refine ad_ hK1 ?_
 refine WC.seq fun _ hK2 => ?_
 refine sr_ fun _ hK3 => ?_
 refine mv_ ?_
 refine b_ bin_lss ?_
 refine dn_ hK3 ?_
 rcases ite_ H with ⟨c4, H⟩ | ⟨c4, H⟩
 · refine wy_ (dT c4) (sr_ fun _ hK5 => ?_)
   refine ad_ hK5 ?_
   obtain rfl := os H
   exact rt1 Tryz.f266 rfl rfl hR_ ⟨rfl, HS.b⟩
 refine wn_ (dF c4) (WC.skip (via_ hK2 (sr_ fun _ hK6 => ?_)))
 refine v_ (lb_ (HS.getO 1 rfl) underlying28 rfl) ?_
 refine mv_ ?_
 refine b_ bin_sub64 ?_
 obtain ⟨⟨q7, q8⟩, H⟩ := if_some H
 obtain ⟨ad9, rfl⟩ := C_open (HS.getO 0 rfl) (lenpos q7 q8)
 refine v_ (ia_ underlying28 1 q7 q8) ?_
 refine v_ (Run.load rfl rfl underlying3 rfl (int_cell (HS.getO 0 rfl) (wrap64 (a0 - 256)) q7 q8)) ?_
 refine ad_ hK6 ?_
 obtain rfl := os H
 exact rt1 Tryz.f266 rfl rfl hR_ ⟨rfl, HS.b⟩
def impl_sizesOf.b0 (l0 : List S114) (rec_ : Int → (List Int) → Option (((List Int) × Bool) ⊕ (Int × (List Int)))) (k30 : Nat) (i17 : Int) (xs18 : List Int) : Option (((List Int) × Bool) ⊕ (Int × (List Int))) := (if i17 < (l0.length : Int) then (if 0 ≤ i17 ∧ i17 < (l0.length : Int) then ((impl_isToken.f ((l0.getD i17.toNat o114).f0) i17).bind fun t46 => (if t46 = true then ((impl_isToken.f ((l0.getD i17.toNat o114).f1) i17).bind fun t50 => (if t50 = true then ((impl_sizesOf_1.g k30 ((l0.getD i17.toNat o114).f0) xs18).bind fun t58 => ((impl_sizesOf_1.g k30 ((l0.getD i17.toNat o114).f1) xs18).bind fun t61 => (if (wrap64 (t58 + t61)) > 64 then (some (Sum.inl ([], false))) else (if (xs18.length) < 4294967296 then (rec_ (wrap64 (i17 + 1)) (xs18 ++ [wrap64 (t58 + t61)])) else none)))) else (some (Sum.inl ([], false))))) else (some (Sum.inl ([], false))))) else none) else (some (Sum.inr (i17, xs18))))
def impl_sizesOf.l0 (l0 : List S114) : Nat → Int → (List Int) → Option (((List Int) × Bool) ⊕ (Int × (List Int)))
 | 0, _, _ => none
 | k + 1, i17, xs18 => impl_sizesOf.b0 l0 (impl_sizesOf.l0 l0 k) k i17 xs18
def impl_sizesOf.g (k : Nat) (l0 : List S114) : Option ((List Int) × Bool) := ((impl_sizesOf.l0 l0 k 0 ([] : List Int)).bind (fun oc28 => match oc28 with | .inl r_ => some r_ | .inr ⟨i17, xs18⟩ => (some (xs18, true))))
theorem impl_sizesOf.runs (k : Nat) (A0 : Option Addr) (c0 : Nat) (l0 : List S114) (r1 : List Int) (r2 : Bool) (w : World) (hr0 : k114.C w A0 l0.length l0) (hc0 : l0.length ≤ c0) (H : impl_sizesOf.g k l0 = some (r1, r2)) :
   Calls prog 222 #[.slice A0 l0.length c0] w fun e w' => ∃ (A0_ : Option Addr) (c0_ : Nat), e = .returned (.tuple #[.slice A0_ r1.length c0_, .bool r2]) ∧ r1.length ≤ c0_ ∧ Foot (cF kI A0_ r1) w' (fun k_ => w.heap.size ≤ k_) ∧ Below w.heap.size w w' := by
 unfold impl_sizesOf.g at H
 have HS : St (fun _ => True) w w [] [(cF k114 A0 l0)] [] := St.start (foot_cons (foot_C h114 hr0) foot_nil)
 refine cw_ (n := 47) func222 fun R_ hR_ => ?_
 refine sr_ fun _ hK1 => ?_
 refine as_ ?_
 refine ad_ hK1 ?_
 refine sr_ fun _ hK2 => ?_
 refine WL.lit0 HS rfl rfl (by decide) rfl underlying28 (sz := 1) (by kernel_rfl) (fun v3 w4 HS => ?_)
 replace HS := HS.deriveN (p := (rF kI ([] : List Int) [])) (fun _ _ => Reps.none _ _)
 refine WL.alloc HS (v := sn) (cs := #[sn]) rfl rfl (by decide) rfl (by kernel_rfl) rfl (fun b5 w6 hb5 HS => ?_)
 obtain ⟨A8, c9, rfl⟩ := row_slice (HS.mu 1 rfl)
 refine WL.store HS 0 rfl rfl rfl rfl rfl rfl rfl (by kernel_rfl) (ble_ rfl) (cs' := #[(.slice A8 0 c9)]) (by kernel_rfl) (fun w7 HS => ?_)
 dsimp only [List.set] at HS
 refine dn_ hK2 (sr_ fun _ hK10 => ?_)
 refine v_ (Run.makeFunc (cap := [.pointer (some ⟨b5, 0, none⟩)]) rfl rfl) ?_
 refine ad_ hK10 ?_
 refine WC.seq fun K11 hK11 => ?_
 refine sr_ fun _ hK12 => ?_
 refine mv_ ?_
 refine ln_ underlying25 ?_
 refine mv_ ?_
 refine dn_ hK12 (WC.block ?_)
 obtain ⟨G13, hG14, oc15, H, Ho16⟩ := open_G H
 let J21 := fun (i17 : Int) (xs18 : List Int) v19 I20 (E_ : Env) (W_ : World) => E_ = [(4, .pointer (some ⟨b5, 0, none⟩)), (5, .func (.func 266) #[] #[.pointer (some ⟨b5, 0, none⟩)]), (11, .slice A0 l0.length c0), (12, vi (l0.length : Int)), (13, vi i17)] ∧ St (fun _ => True) w W_ [boxM b5 #[v19] 28, rowM w.heap.size 3 1 v19 xs18.length I20] [(cF k114 A0 l0)] [(rF kI xs18 I20)]
 have X22 : ∀ E_ W_, (∃ i17 xs18 v19 I20, G13 (Sum.inr (i17, xs18)) = some (r1, r2) ∧ J21 i17 xs18 v19 I20 E_ W_) → ∀ a, Fits a 47 E_ → K11 a W_ := by
   rintro E_ w23 ⟨i17, xs18, v19, I20, H, rfl, HS⟩
   rw [hG14] at H
   (try dsimp only at H)
   refine hK11 _ _ ?_
   refine sr_ fun _ hK24 => ?_
   obtain ⟨A25, c26, rfl⟩ := row_slice (HS.mu 1 rfl)
   refine v_ (lb_ (HS.mu 0 rfl) underlying28 rfl) ?_
   refine as_ ?_
   refine ad_ hK24 ?_
   refine WC.ret ?_
   have le27 := row_le (HS.mu 1 rfl)
   replace HS := HS.freezeN 1 (p := (cF kI A25 (xs18))) rfl (fun W_ hm_ h_ => row_C (by rfl) hm_ h_.1)
   dsimp only [List.eraseIdx] at HS
   obtain ⟨rfl, rfl⟩ := Prod.mk.inj (os H)
   exact fin2 Tryz.f222 rfl rfl rfl hR_ ⟨_, _, rfl, le27, (foot_fresh (HS.footN 0 rfl)), HS.b⟩
 clear hK11
 refine WC.loop (fun k_ E_ W_ => ∃ i17 xs18 v19 I20, (∃ o_, impl_sizesOf.l0 l0 k_ i17 xs18 = some o_ ∧ G13 o_ = some (r1, r2)) ∧ J21 i17 xs18 v19 I20 E_ W_) k ⟨0, ([] : List Int), (.slice A8 0 c9), ([]), ⟨_, H, Ho16⟩, rfl, HS⟩ (sb rfl) ?_
 rintro k_ E_ w29 ⟨i17, xs18, v19, I20, ⟨oc15, H, Ho16⟩, rfl, HS⟩
 rcases k_ with _ | k30
 · exact no_ H
 replace H : impl_sizesOf.b0 l0 (impl_sizesOf.l0 l0 k30) k30 i17 xs18 = some oc15 := H
 unfold impl_sizesOf.b0 at H
 refine sr_ fun _ hK31 => ?_
 refine b_ bin_lss ?_
 refine dn_ hK31 (WC.seq fun _ hK32 => ?_)
 rcases eti_ H with ⟨c33, H⟩ | ⟨c33, H⟩
 · refine wn_ (dF c33) (WC.exit ?_)
   obtain rfl := os H
   exact wv_ iq X22 ⟨i17, xs18, v19, I20, Ho16, rfl, HS⟩
 refine wy_ (dT c33) (WC.skip (via_ hK32 (WC.seq fun _ hK34 => ?_)))
 refine WC.block (sr_ fun _ hK35 => ?_)
 refine mv_ ?_
 obtain ⟨⟨q36, q37⟩, H⟩ := if_some H
 obtain ⟨ad38, rfl⟩ := C_open (HS.getO 0 rfl) (lenpos q36 q37)
 refine v_ (ia_ underlying25 2 q36 q37) ?_
 obtain ⟨e39, el40, HS⟩ := HS.elO 0 rfl (by decide) o114 i17 q36 q37
 refine v_ (Run.loadS (cs := [vi ((l0.getD i17.toNat o114).f0), vi ((l0.getD i17.toNat o114).f1)]) rfl rfl underlying114 rfl (by kernel_rfl) (cells_part (HS.getO 0 rfl).2 (part_cons (at114_0 (AtK.whole (HS.getO 0 rfl).1)).int (part_cons (at114_1 (AtK.whole (HS.getO 0 rfl).1)).int part_nil)))) ?_
 refine WL.alloc HS (v := .agg #[vi 0, vi 0]) (cs := #[vi 0, vi 0]) rfl rfl (by decide) rfl (by kernel_rfl) rfl (fun b41 w42 hb41 HS => ?_)
 refine as_ ?_
 refine WL.storeW HS 0 rfl rfl rfl rfl rfl rfl (oneL rfl) (by kernel_rfl) rfl (fun w43 HS => ?_)
 dsimp only [List.set] at HS
 refine dn_ hK35 (WC.seq fun _ hK44 => ?_)
 refine sr_ fun _ hK45 => ?_
 refine v_ (fa_ underlying114) ?_
 refine v_ (lb_ (HS.mu 0 rfl) underlying3 rfl) ?_
 refine mv_ ?_
 obtain ⟨t46, ha47, H⟩ := bind_some H
 refine cs0_ HS func123 (impl_isToken.calls ((l0.getD i17.toNat o114).f0) i17 t46 _ ha47) (fun w48 HS => ?_)
 clear ha47
 refine nt_ ?_
 refine mv_ ?_
 rcases eti_ H with ⟨c49, H⟩ | ⟨c49, H⟩
 · refine off_ (c' := true) (nB (bF c49)) ?_
   refine WL.know 23 (nB (bF c49)) ?_
   refine fast_ ?_
   refine via_ hK45 (wy_ rfl ?_)
   refine sr_ fun _ hK77 => ?_
   refine as_ ?_
   refine ad_ hK77 ?_
   refine WC.ret ?_
   obtain rfl := os H
   rw [hG14] at Ho16
   replace H : some _ = some _ := Ho16
   obtain ⟨rfl, rfl⟩ := Prod.mk.inj (os H)
   exact fin2 Tryz.f222 rfl rfl rfl hR_ ⟨_, _, rfl, (Nat.le_refl _), (fun W_ _ => Kd.C_nil _ _), HS.b⟩
 refine on_ (nB c49) (v_ (fa_ underlying114) ?_)
 refine on_ (nB c49) (v_ (lb_ (HS.mu 0 rfl) underlying3 rfl) ?_)
 refine on_ (nB c49) (mv_ ?_)
 refine on_ (nB c49) ?_
 obtain ⟨t50, ha51, H⟩ := bind_some H
 refine cs0_ HS func123 (impl_isToken.calls ((l0.getD i17.toNat o114).f1) i17 t50 _ ha51) (fun w52 HS => ?_)
 clear ha51
 refine on_ (nB c49) (nt_ ?_)
 refine v_ (Run.pickF rfl rfl (nB c49) rfl) ?_
 refine dn_ hK45 ?_
 rcases eti_ H with ⟨c53, H⟩ | ⟨c53, H⟩
 · refine wy_ (nB (bF c53)) (sr_ fun _ hK76 => ?_)
   refine as_ ?_
   refine ad_ hK76 ?_
   refine WC.ret ?_
   obtain rfl := os H
   rw [hG14] at Ho16
   replace H : some _ = some _ := Ho16
   obtain ⟨rfl, rfl⟩ := Prod.mk.inj (os H)
   exact fin2 Tryz.f222 rfl rfl rfl hR_ ⟨_, _, rfl, (Nat.le_refl _), (fun W_ _ => Kd.C_nil _ _), HS.b⟩
 refine wn_ (nB c53) (WC.skip (via_ hK44 (WC.seq fun _ hK54 => ?_)))
 refine WC.drawS HS [] rfl rfl (fun w55 HS => ?_)
 have HB := Below.refl w55.heap.size w55
 have HSW := HS
 refine dm_ 0 ?_
 refine df_ 1 underlying114 ?_
 refine dm_ 4 ?_
 refine df_ 5 underlying114 ?_
 refine bl_ 2 HS (Below.refl _ _) 0 underlying3 rfl ?_
 refine bl_ 6 HS (Below.refl _ _) 0 underlying3 rfl ?_
 obtain ⟨A56, c57, rfl⟩ := row_slice (HS.mu 2 rfl)
 obtain ⟨t58, ha59, H⟩ := bind_some H
 refine dcv_ (args := [vi ((l0.getD i17.toNat o114).f0)]) (cap := [.pointer (some ⟨b5, 0, none⟩)]) 3 (w_none rfl) func266 (impl_sizesOf_1.runs k30 ((l0.getD i17.toNat o114).f0) b5 A56 c57 xs18 t58 _ (row_C rfl (HS.mu 2 rfl) (HS.getN 0 rfl)) (row_le (HS.mu 2 rfl)) (HS.mu 1 rfl) ha59) ?_
 clear ha59
 rintro _ w60 ⟨rfl, hb⟩
 replace HB := HB.trans (hb.mono HB.size)
 replace HS := HS.below hb
 refine ⟨HB, _, rfl, ?_⟩
 clear hb
 obtain ⟨t61, ha62, H⟩ := bind_some H
 refine dcv_ (args := [vi ((l0.getD i17.toNat o114).f1)]) (cap := [.pointer (some ⟨b5, 0, none⟩)]) 7 (w_none rfl) func266 (impl_sizesOf_1.runs k30 ((l0.getD i17.toNat o114).f1) b5 A56 c57 xs18 t61 _ (row_C rfl (HS.mu 2 rfl) (HS.getN 0 rfl)) (row_le (HS.mu 2 rfl)) (HS.mu 1 rfl) ha62) ?_
 clear ha62
 rintro _ w63 ⟨rfl, hb⟩
 replace HB := HB.trans (hb.mono HB.size)
 replace HS := HS.below hb
 refine ⟨HB, _, rfl, ?_⟩
 clear hb
 refine dp_ 8 (fun _ => Run.bin rfl rfl rfl bin_add64) ?_
 refine dp_ 9 (fun _ => Run.assign rfl rfl) ?_
 refine dd_ ?_
 clear HB HSW
 refine via_ hK54 (WC.seq fun _ hK64 => ?_)
 refine sr_ fun _ hK65 => ?_
 refine mv_ ?_
 refine b_ bin_gtr ?_
 refine dn_ hK65 ?_
 rcases ite_ H with ⟨c66, H⟩ | ⟨c66, H⟩
 · refine wy_ (dT c66) (sr_ fun _ hK67 => ?_)
   refine as_ ?_
   refine ad_ hK67 ?_
   refine WC.ret ?_
   obtain rfl := os H
   rw [hG14] at Ho16
   replace H : some _ = some _ := Ho16
   obtain ⟨rfl, rfl⟩ := Prod.mk.inj (os H)
   exact fin2 Tryz.f222 rfl rfl rfl hR_ ⟨_, _, rfl, (Nat.le_refl _), (fun W_ _ => Kd.C_nil _ _), HS.b⟩
 refine wn_ (dF c66) (WC.skip (via_ hK64 (rg_ (v_ (lb_ (HS.mu 1 rfl) underlying28 rfl) ?_))))
 refine mv_ ?_
 refine WL.val rfl rfl (by decide) (Run.lit1 (z := (vi 0)) (vs := [vi (wrap64 (t58 + t61))]) rfl rfl rfl underlying28 (by kernel_rfl) (ble_ rfl) (ble_ rfl)) ?_
 have HS1 := HS.below (below_alloc (Below.refl _ _) (.cells #[vi (wrap64 (t58 + t61))] 3))
 obtain ⟨q68, H⟩ := if_some H
 refine WL.append HS1 2 rfl rfl rfl (by decide) rfl (vi 0) 8 underlying28 (by kernel_rfl) rfl (by decide) (by decide) rfl rfl [vi (wrap64 (t58 + t61))] rfl (lit_news _ _ _) (oneL rfl) (by omega) ((xs18 ++ [wrap64 (t58 + t61)]).length) (by simp) (fun v69 w70 I71 hI72 HS => ?_)
 dsimp only [List.set] at HS
 replace HS := HS.deriveN (p := (rF kI (xs18 ++ [wrap64 (t58 + t61)]) I71)) (fun W_ hN_ => reps_snoc hI72 hN_.1 (K_int _))
 clear HS1
 obtain ⟨A74, c75, rfl⟩ := row_slice (HS.mu 2 rfl)
 refine WL.store HS 1 rfl rfl rfl rfl rfl rfl rfl (by kernel_rfl) (ble_ rfl) (cs' := #[(.slice A74 ((xs18 ++ [wrap64 (t58 + t61)]).length) c75)]) (by kernel_rfl) (fun w73 HS => ?_)
 dsimp only [List.set] at HS
 refine dn_ hK34 (rg_ (b_ bin_add64 ?_))
 refine mv_ ?_
 refine WL.done ?_
 exact wr_ k30 iq ⟨(wrap64 (i17 + 1)), (xs18 ++ [wrap64 (t58 + t61)]), (.slice A74 ((xs18 ++ [wrap64 (t58 + t61)]).length) c75), I71, ⟨_, H, Ho16⟩, rfl, (St.pk (St.forget HS 0 rfl) [1] [0] rfl rfl)⟩
end Go.Proofs.YtoccifnjhbibcaaGreat.PFnExactKeyValue
