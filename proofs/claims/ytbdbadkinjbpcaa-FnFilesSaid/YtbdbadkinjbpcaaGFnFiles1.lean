/- Functions that the statement reaches, as Lean functions, and the proof that a call of each comes to just its answer; written by this claim's own program. No conditions. -/
import Derived.Test.YtbdbadkinjbpcaaGFnFiles0
namespace Go.Proofs.Ytbdbadkinjbpcaa.PFnFiles
open Try
open Go.RowKit Go.Proofs.YtbdbadkinjbpcaaW.PrintWords Go.Proofs.YtbdbadkinjbpcaaW.PrintLast Go.Proofs.YtbdbadkinjbpcaaW.PrintMore Go.Proofs.Ytbdbadkinjbpcaa.XW Go.Proofs.Ytbdbadkinjbpcaa.XOp Go.Proofs.Ytbdbadkinjbpcaa.XSt Go.Proofs.Ytbdbadkinjbpcaa.XDraw
set_option linter.unusedVariables false
set_option linter.unusedSimpArgs false
set_option maxHeartbeats 4000000
set_option maxRecDepth 20000
def sG.b0 (x0 : S83) (a1 : Int) (rec_ : (List Int) → Int → Int → Int → Option ((List Int) × Int × Int × Int)) (k26 : Nat) (xs11 : List Int) (i14 : Int) (i15 : Int) (i16 : Int) : Option ((List Int) × Int × Int × Int) := (if i14 < a1 then ((sB.g k26 (⟨x0.f0, i15, i16⟩ : S83) 100).bind fun t31 => (if (xs11.length) < 4294967296 then (rec_ (xs11 ++ [wrap64 (20 + t31.1)]) (wrap64 (i14 + 1)) t31.2.f1 t31.2.f2) else none)) else (some (xs11, i14, i15, i16)))
def sG.l0 (x0 : S83) (a1 : Int) : Nat → (List Int) → Int → Int → Int → Option ((List Int) × Int × Int × Int)
 | 0, _, _, _, _ => none
 | k + 1, xs11, i14, i15, i16 => sG.b0 x0 a1 (sG.l0 x0 a1 k) k xs11 i14 i15 i16
def sG.g (k : Nat) (x0 : S83) (a1 : Int) : Option ((List Int) × S83) := ((sG.l0 x0 a1 k ([] : List Int) 0 x0.f1 x0.f2).bind (fun oc24 => (some (oc24.1, (⟨x0.f0, oc24.2.2.1, oc24.2.2.2⟩ : S83)))))
theorem sG.runs (k : Nat) (b0 : Nat) (x0 : S83) (A0_0 : Option Addr) (c0_0 : Nat) (a1 : Int) (bs_ : List Nat) (r1 : List Int) (y_ : S83) (w0 w : World) (hB_ : Below w0.heap.size w0 w) (hn_ : (b0 :: bs_).Nodup) (hl_ : ∀ k, k ∈ b0 :: bs_ → w0.heap.size ≤ k ∧ k < w.heap.size) (hr0_0 : Foot (cF kU A0_0 x0.f0) w (fun k_ => k_ ∉ b0 :: bs_)) (hc0_0 : x0.f0.length ≤ c0_0) (hb0 : w.heap[b0]? = some (.cells #[.slice A0_0 x0.f0.length c0_0, vi x0.f1, vi x0.f2] 83 (0, 0))) (H : sG.g k x0 a1 = some (r1, y_)) :
   Calls prog 41 #[.pointer (some ⟨b0, 0, none⟩), vi a1] w fun e w' => ∃ (A0_ : Option Addr) (c0_ : Nat), e = .returned (.slice A0_ r1.length c0_) ∧ r1.length ≤ c0_ ∧ Foot (cF kI A0_ r1) w' (fun k_ => w0.heap.size ≤ k_ ∧ k_ ∉ b0 :: bs_) ∧ w'.heap[b0]? = some (.cells #[.slice A0_0 x0.f0.length c0_0, vi y_.f1, vi y_.f2] 83 (0, 0)) ∧ RestOf w w' b0 ∧ Below w0.heap.size w0 w' := by
 unfold sG.g at H
 have HS : St (fun _ => True) w0 w [boxM b0 #[.slice A0_0 x0.f0.length c0_0, vi x0.f1, vi x0.f2] 83, keepM w bs_] [(frameF w b0 bs_), (cF kU A0_0 x0.f0)] [] := St.startM hB_ hn_ hl_ hb0 (foot_cons hr0_0 foot_nil)
 refine cw_ (n := 20) func41 fun R_ hR_ => ?_
 refine sr_ fun _ hK1 => ?_
 refine ad_ hK1 ?_
 refine sr_ fun _ hK2 => ?_
 refine WL.lit0 HS rfl rfl (by decide) rfl underlying27 (sz := 1) (by kernel_rfl) (fun v3 w4 HS => ?_)
 replace HS := HS.deriveN (p := (rF kI ([] : List Int) [])) (fun _ _ => Reps.none _ _)
 refine ad_ hK2 ?_
 refine WC.seq fun K5 hK5 => ?_
 refine sr_ fun _ hK6 => ?_
 refine ad_ hK6 ?_
 refine WC.block ?_
 obtain ⟨G7, hG8, oc9, H, Ho10⟩ := open_G H
 let J17 := fun (xs11 : List Int) v12 I13 (i14 : Int) (i15 : Int) (i16 : Int) (E_ : Env) (W_ : World) => E_ = [(0, .pointer (some ⟨b0, 0, none⟩)), (1, vi a1), (5, v12), (6, vi i14)] ∧ St (fun _ => True) w0 W_ [rowM w0.heap.size 3 1 v12 xs11.length I13, boxM b0 #[.slice A0_0 x0.f0.length c0_0, vi i15, vi i16] 83, keepM w bs_] [(frameF w b0 bs_), (cF kU A0_0 x0.f0)] [(rF kI xs11 I13)]
 have X18 : ∀ E_ W_, (∃ xs11 v12 I13 i14 i15 i16, G7 (xs11, i14, i15, i16) = some (r1, y_) ∧ J17 xs11 v12 I13 i14 i15 i16 E_ W_) → ∀ a, Fits a 20 E_ → K5 a W_ := by
   rintro E_ w19 ⟨xs11, v12, I13, i14, i15, i16, H, rfl, HS⟩
   rw [hG8] at H
   (try dsimp only at H)
   refine hK5 _ _ ?_
   refine sr_ fun _ hK20 => ?_
   refine mv_ ?_
   refine ad_ hK20 ?_
   refine WC.ret ?_
   obtain ⟨A21, c22, rfl⟩ := row_slice (HS.mu 0 rfl)
   have le23 := row_le (HS.mu 0 rfl)
   replace HS := HS.freezeN 0 (p := (cF kI A21 (xs11))) rfl (fun W_ hm_ h_ => row_C (by rfl) hm_ h_.1)
   dsimp only [List.eraseIdx] at HS
   obtain ⟨rfl, rfl⟩ := Prod.mk.inj (os H)
   have HSf := HS
   exact fin1 Try.f41 rfl rfl hR_ ⟨_, _, rfl, le23, (foot_freshM (HSf.footN 0 rfl)), (HSf.mu 0 rfl), (rest_of (HSf.getO 0 rfl) (HSf.mu 1 rfl)), HSf.b⟩
 clear hK5
 refine WC.loop (fun k_ E_ W_ => ∃ xs11 v12 I13 i14 i15 i16, (∃ o_, sG.l0 x0 a1 k_ xs11 i14 i15 i16 = some o_ ∧ G7 o_ = some (r1, y_)) ∧ J17 xs11 v12 I13 i14 i15 i16 E_ W_) k ⟨([] : List Int), v3, ([]), 0, x0.f1, x0.f2, ⟨_, H, Ho10⟩, rfl, HS⟩ (sb rfl) ?_
 rintro k_ E_ w25 ⟨xs11, v12, I13, i14, i15, i16, ⟨oc9, H, Ho10⟩, rfl, HS⟩
 rcases k_ with _ | k26
 · exact no_ H
 replace H : sG.b0 x0 a1 (sG.l0 x0 a1 k26) k26 xs11 i14 i15 i16 = some oc9 := H
 unfold sG.b0 at H
 refine WC.seq fun _ hK27 => ?_
 refine sr_ fun _ hK28 => ?_
 refine mv_ ?_
 refine mv_ ?_
 refine b_ bin_lss ?_
 refine dn_ hK28 ?_
 rcases eti_ H with ⟨c29, H⟩ | ⟨c29, H⟩
 · refine wn_ (dF c29) (WC.exit ?_)
   obtain rfl := os H
   exact wv_ iq X18 ⟨xs11, v12, I13, i14, i15, i16, Ho10, rfl, HS⟩
 refine wy_ (dT c29) (WC.skip (via_ hK27 (WC.seq fun _ hK30 => ?_)))
 refine WC.block (rg_ (mv_ ?_))
 refine mv_ ?_
 obtain ⟨t31, ha32, H⟩ := bind_some H
 refine c_ func14 (sB.runs k26 b0 (⟨x0.f0, i15, i16⟩ : S83) A0_0 c0_0 100 _ t31.1 t31.2 _ _ HS.b (HS.nodupM 1 rfl) (HS.boundM 1 rfl) (HS.footOM 1 rfl 1 rfl) hc0_0 (HS.mu 1 rfl) ha32) ?_
 clear ha32
 rintro _ w33 ⟨rfl, hbx_, hrest_, hB1_⟩
 replace HS := HS.calledM 1 rfl hB1_ hrest_ hbx_
 dsimp only [List.set] at HS
 clear hB1_ hrest_ hbx_
 refine ⟨_, rfl, ?_⟩
 refine b_ bin_add64 ?_
 refine WL.val rfl rfl (by decide) (Run.lit1 (z := (vi 0)) (vs := [vi (wrap64 (20 + t31.1))]) rfl rfl rfl underlying27 (by kernel_rfl) (ble_ rfl) (ble_ rfl)) ?_
 have HS1 := HS.below (below_alloc (Below.refl _ _) (.cells #[vi (wrap64 (20 + t31.1))] 3))
 obtain ⟨q34, H⟩ := if_some H
 refine WL.append HS1 0 rfl rfl rfl (by decide) rfl (vi 0) 8 underlying27 (by kernel_rfl) rfl (by decide) (by decide) rfl rfl [vi (wrap64 (20 + t31.1))] rfl (lit_news _ _ _) (oneL rfl) (by omega) ((xs11 ++ [wrap64 (20 + t31.1)]).length) (by simp) (fun v35 w36 I37 hI38 HS => ?_)
 dsimp only [List.set] at HS
 replace HS := HS.deriveN (p := (rF kI (xs11 ++ [wrap64 (20 + t31.1)]) I37)) (fun W_ hN_ => reps_snoc hI38 hN_.1 (K_int _))
 clear HS1
 refine ad_ hK30 ?_
 refine rg_ (mv_ ?_)
 refine b_ bin_add64 ?_
 refine as_ ?_
 refine WL.done ?_
 exact wr_ k26 iq ⟨(xs11 ++ [wrap64 (20 + t31.1)]), v35, I37, (wrap64 (i14 + 1)), t31.2.f1, t31.2.f2, ⟨_, H, Ho10⟩, rfl, (St.pk HS [0, 1] [0] rfl rfl)⟩
def sM.b1 (x0 : S83) (a1 : Int) (rec_ : (List Int) → Int → Int → Int → Option ((List Int) × Int × Int × Int)) (k99 : Nat) (xs56 : List Int) (i59 : Int) (i60 : Int) (i61 : Int) : Option ((List Int) × Int × Int × Int) := (if i59 < (wrap64 (Int.tdiv a1 4)) then ((sB.g k99 (⟨x0.f0, i60, i61⟩ : S83) 20).bind fun t104 => (if (xs56.length) < 4294967296 then (rec_ (xs56 ++ [wrap64 (1 + t104.1)]) (wrap64 (i59 + 1)) t104.2.f1 t104.2.f2) else none)) else (some (xs56, i59, i60, i61)))
def sM.l1 (x0 : S83) (a1 : Int) : Nat → (List Int) → Int → Int → Int → Option ((List Int) × Int × Int × Int)
 | 0, _, _, _, _ => none
 | k + 1, xs56, i59, i60, i61 => sM.b1 x0 a1 (sM.l1 x0 a1 k) k xs56 i59 i60 i61
def sM.b0 (x0 : S83) (a1 : Int) (a2 : Int) (rec_ : Int → Int → Int → (List (List Int)) → (List (List Int)) → Option (Int × Int × Int × (List (List Int)) × (List (List Int)))) (k42 : Nat) (i20 : Int) (i21 : Int) (i22 : Int) (xs23 : List (List Int)) (xs26 : List (List Int)) : Option (Int × Int × Int × (List (List Int)) × (List (List Int))) := (if i20 < a2 then ((sM.l1 x0 a1 k42 ([] : List Int) 0 i21 i22).bind (fun oc97 => ((sS.g k42 (⟨x0.f0, oc97.2.2.1, oc97.2.2.2⟩ : S83) a1).bind fun t69 => (if (xs23.length) < 4294967296 then (if (xs26.length) < 4294967296 then (rec_ (wrap64 (i20 + 1)) t69.2.f1 t69.2.f2 (xs23 ++ [t69.1]) (xs26 ++ [oc97.1])) else none) else none)))) else (some (i20, i21, i22, xs23, xs26)))
def sM.l0 (x0 : S83) (a1 : Int) (a2 : Int) : Nat → Int → Int → Int → (List (List Int)) → (List (List Int)) → Option (Int × Int × Int × (List (List Int)) × (List (List Int)))
 | 0, _, _, _, _, _ => none
 | k + 1, i20, i21, i22, xs23, xs26 => sM.b0 x0 a1 a2 (sM.l0 x0 a1 a2 k) k i20 i21 i22 xs23 xs26
def sM.g (k : Nat) (x0 : S83) (a1 : Int) (a2 : Int) : Option (S29 × S83) := ((sB.g k (⟨x0.f0, x0.f1, x0.f2⟩ : S83) 40).bind fun t5 => ((sB.g k (⟨x0.f0, t5.2.f1, t5.2.f2⟩ : S83) 5).bind fun t8 => ((sM.l0 x0 a1 a2 k 0 t8.2.f1 t8.2.f2 ([] : List (List Int)) ([] : List (List Int))).bind (fun oc40 => (some ((⟨a1, oc40.2.2.2.1, oc40.2.2.2.2, wrap64 (1 + t5.1), wrap64 (6 + t8.1)⟩ : S29), (⟨x0.f0, oc40.2.1, oc40.2.2.1⟩ : S83)))))))
theorem sM.runs (k : Nat) (b0 : Nat) (x0 : S83) (A0_0 : Option Addr) (c0_0 : Nat) (a1 : Int) (a2 : Int) (bs_ : List Nat) (r1 : S29) (y_ : S83) (w0 w : World) (hB_ : Below w0.heap.size w0 w) (hn_ : (b0 :: bs_).Nodup) (hl_ : ∀ k, k ∈ b0 :: bs_ → w0.heap.size ≤ k ∧ k < w.heap.size) (hr0_0 : Foot (cF kU A0_0 x0.f0) w (fun k_ => k_ ∉ b0 :: bs_)) (hc0_0 : x0.f0.length ≤ c0_0) (hb0 : w.heap[b0]? = some (.cells #[.slice A0_0 x0.f0.length c0_0, vi x0.f1, vi x0.f2] 83 (0, 0))) (H : sM.g k x0 a1 a2 = some (r1, y_)) :
   Calls prog 42 #[.pointer (some ⟨b0, 0, none⟩), vi a1, vi a2] w fun e w' => ∃ (A0_1_ : Option Addr) (c0_1_ : Nat) (A0_2_ : Option Addr) (c0_2_ : Nat), e = .returned (.agg #[vi r1.f0, .slice A0_1_ r1.f1.length c0_1_, .slice A0_2_ r1.f2.length c0_2_, vi r1.f3, vi r1.f4]) ∧ r1.f1.length ≤ c0_1_ ∧ Foot (cF kS3 A0_1_ r1.f1) w' (fun k_ => w0.heap.size ≤ k_ ∧ k_ ∉ b0 :: bs_) ∧ r1.f2.length ≤ c0_2_ ∧ Foot (cF kS3 A0_2_ r1.f2) w' (fun k_ => w0.heap.size ≤ k_ ∧ k_ ∉ b0 :: bs_) ∧ w'.heap[b0]? = some (.cells #[.slice A0_0 x0.f0.length c0_0, vi y_.f1, vi y_.f2] 83 (0, 0)) ∧ RestOf w w' b0 ∧ Below w0.heap.size w0 w' := by
 unfold sM.g at H
 have HS : St (fun _ => True) w0 w [boxM b0 #[.slice A0_0 x0.f0.length c0_0, vi x0.f1, vi x0.f2] 83, keepM w bs_] [(frameF w b0 bs_), (cF kU A0_0 x0.f0)] [] := St.startM hB_ hn_ hl_ hb0 (foot_cons hr0_0 foot_nil)
 refine cw_ (n := 52) func42 fun R_ hR_ => ?_
 refine sr_ fun _ hK1 => ?_
 refine WL.alloc HS (v := .agg #[vi 0, sn, sn, vi 0, vi 0]) (cs := #[vi 0, sn, sn, vi 0, vi 0]) rfl rfl (by decide) rfl (by kernel_rfl) rfl (fun b2 w3 hb2 HS => ?_)
 refine dn_ hK1 (sr_ fun _ hK4 => ?_)
 clear hK1
 refine mv_ ?_
 refine mv_ ?_
 obtain ⟨t5, ha6, H⟩ := bind_some H
 refine c_ func14 (sB.runs k b0 (⟨x0.f0, x0.f1, x0.f2⟩ : S83) A0_0 c0_0 40 _ t5.1 t5.2 _ _ HS.b (HS.nodupM 1 rfl) (HS.boundM 1 rfl) (HS.footOM 1 rfl 1 rfl) hc0_0 (HS.mu 1 rfl) ha6) ?_
 clear ha6
 rintro _ w7 ⟨rfl, hbx_, hrest_, hB1_⟩
 replace HS := HS.calledM 1 rfl hB1_ hrest_ hbx_
 dsimp only [List.set] at HS
 clear hB1_ hrest_ hbx_
 exact by (
 refine ⟨_, rfl, ?_⟩
 refine b_ bin_add64 ?_
 refine mv_ ?_
 obtain ⟨t8, ha9, H⟩ := bind_some H
 refine c_ func14 (sB.runs k b0 (⟨x0.f0, t5.2.f1, t5.2.f2⟩ : S83) A0_0 c0_0 5 _ t8.1 t8.2 _ _ HS.b (HS.nodupM 1 rfl) (HS.boundM 1 rfl) (HS.footOM 1 rfl 1 rfl) hc0_0 (HS.mu 1 rfl) ha9) ?_
 clear ha9
 rintro _ w10 ⟨rfl, hbx_, hrest_, hB1_⟩
 replace HS := HS.calledM 1 rfl hB1_ hrest_ hbx_
 dsimp only [List.set] at HS
 clear hB1_ hrest_ hbx_
 refine ⟨_, rfl, ?_⟩
 refine b_ bin_add64 ?_
 refine v_ (Run.build (cells := #[vi a1, sn, sn, vi (wrap64 (1 + t5.1)), vi (wrap64 (6 + t8.1))]) rfl [(0, vi a1), (3, vi (wrap64 (1 + t5.1))), (4, vi (wrap64 (6 + t8.1)))] ⟨⟨rfl, rfl⟩, ⟨⟨rfl, rfl⟩, ⟨⟨rfl, rfl⟩, trivial⟩⟩⟩ (by kernel_rfl)) ?_
 refine WL.alloc HS (v := .agg #[vi 0, sn, sn, vi 0, vi 0]) (cs := #[vi 0, sn, sn, vi 0, vi 0]) rfl rfl (by decide) rfl (by kernel_rfl) rfl (fun b11 w12 hb11 HS => ?_)
 refine WL.storeW HS 0 rfl rfl rfl rfl rfl rfl (oneL rfl) (by kernel_rfl) rfl (fun w13 HS => ?_)
 dsimp only [List.set] at HS
 exact by (
 refine dn_ hK4 (WC.seq fun K14 hK14 => ?_)
 clear hK4
 refine sr_ fun _ hK15 => ?_
 refine ad_ hK15 ?_
 clear hK15
 refine WC.block ?_
 replace HS := HS.rowNil 27 1
 replace HS := HS.deriveN (p := (rF kS3 ([] : List (List Int)) [])) (fun _ _ => Reps.none _ _)
 replace HS := HS.rowNil 27 1
 replace HS := HS.deriveN (p := (rF kS3 ([] : List (List Int)) [])) (fun _ _ => Reps.none _ _)
 obtain ⟨G16, hG17, oc18, H, Ho19⟩ := open_G H
 let J29 := fun (i20 : Int) (i21 : Int) (i22 : Int) (xs23 : List (List Int)) v24 I25 (xs26 : List (List Int)) v27 I28 (E_ : Env) (W_ : World) => E_ = [(0, .pointer (some ⟨b0, 0, none⟩)), (1, vi a1), (2, vi a2), (6, .pointer (some ⟨b2, 0, none⟩)), (7, .pointer (some ⟨b11, 0, none⟩)), (8, vi i20)] ∧ St (fun _ => True) w0 W_ [rowM w0.heap.size 27 1 v27 xs26.length I28, rowM w0.heap.size 27 1 v24 xs23.length I25, boxM b11 #[vi a1, v24, v27, vi (wrap64 (1 + t5.1)), vi (wrap64 (6 + t8.1))] 29, boxM b2 #[vi 0, sn, sn, vi 0, vi 0] 29, boxM b0 #[.slice A0_0 x0.f0.length c0_0, vi i21, vi i22] 83, keepM w bs_] [(frameF w b0 bs_), (cF kU A0_0 x0.f0)] [(rF kS3 xs26 I28), (rF kS3 xs23 I25)]
 have X30 : ∀ E_ W_, (∃ i20 i21 i22 xs23 v24 I25 xs26 v27 I28, G16 (i20, i21, i22, xs23, xs26) = some (r1, y_) ∧ J29 i20 i21 i22 xs23 v24 I25 xs26 v27 I28 E_ W_) → ∀ a, Fits a 52 E_ → K14 a W_ := by
   rintro E_ w31 ⟨i20, i21, i22, xs23, v24, I25, xs26, v27, I28, H, rfl, HS⟩
   rw [hG17] at H
   (try dsimp only at H)
   exact by (
   refine hK14 _ _ ?_
   clear hK14
   refine sr_ fun _ hK32 => ?_
   obtain ⟨A33, c34, rfl⟩ := row_slice (HS.mu 1 rfl)
   obtain ⟨A35, c36, rfl⟩ := row_slice (HS.mu 0 rfl)
   refine v_ (ls_ (HS.mu 2 rfl) underlying29 part_all) ?_
   refine WL.storeW HS 3 rfl rfl rfl rfl rfl rfl (oneL rfl) (by kernel_rfl) rfl (fun w37 HS => ?_)
   dsimp only [List.set] at HS
   refine dn_ hK32 (WC.ret ?_)
   clear hK32
   have le38 := row_le (HS.mu 1 rfl)
   replace HS := HS.freezeN 1 (p := (cF kS3 A33 (xs23))) rfl (fun W_ hm_ h_ => row_C (by rfl) hm_ h_.2.1)
   dsimp only [List.eraseIdx] at HS
   have le39 := row_le (HS.mu 0 rfl)
   replace HS := HS.freezeN 0 (p := (cF kS3 A35 (xs26))) rfl (fun W_ hm_ h_ => row_C (by rfl) hm_ h_.2.1)
   dsimp only [List.eraseIdx] at HS
   obtain ⟨rfl, rfl⟩ := Prod.mk.inj (os H)
   exact by (
   have HSf := (St.forget (St.forget HS 1 rfl) 0 rfl)
   exact fin1 Try.f42 rfl ⟨_, rfl, resv_box (HS.mu 1 rfl) underlying29 rfl (by kernel_rfl)⟩ hR_ ⟨_, _, _, _, rfl, le38, (foot_freshM (HSf.footN 1 rfl)), le39, (foot_freshM (HSf.footN 0 rfl)), (HSf.mu 0 rfl), (rest_of (HSf.getO 0 rfl) (HSf.mu 1 rfl)), HSf.b⟩ ))
 clear hK14
 refine WC.loop (fun k_ E_ W_ => ∃ i20 i21 i22 xs23 v24 I25 xs26 v27 I28, (∃ o_, sM.l0 x0 a1 a2 k_ i20 i21 i22 xs23 xs26 = some o_ ∧ G16 o_ = some (r1, y_)) ∧ J29 i20 i21 i22 xs23 v24 I25 xs26 v27 I28 E_ W_) k ⟨0, t8.2.f1, t8.2.f2, ([] : List (List Int)), (sn), ([]), ([] : List (List Int)), (sn), ([]), ⟨_, H, Ho19⟩, rfl, HS⟩ (sb rfl) ?_
 rintro k_ E_ w41 ⟨i20, i21, i22, xs23, v24, I25, xs26, v27, I28, ⟨oc18, H, Ho19⟩, rfl, HS⟩
 rcases k_ with _ | k42
 · exact no_ H
 replace H : sM.b0 x0 a1 a2 (sM.l0 x0 a1 a2 k42) k42 i20 i21 i22 xs23 xs26 = some oc18 := H
 unfold sM.b0 at H
 refine WC.seq fun _ hK43 => ?_
 refine sr_ fun _ hK44 => ?_
 refine mv_ ?_
 refine mv_ ?_
 refine b_ bin_lss ?_
 refine dn_ hK44 ?_
 clear hK44
 exact by (
 rcases eti_ H with ⟨c45, H⟩ | ⟨c45, H⟩
 · refine wn_ (dF c45) (WC.exit ?_)
   obtain rfl := os H
   exact wv_ iq X30 ⟨i20, i21, i22, xs23, v24, I25, xs26, v27, I28, Ho19, rfl, HS⟩
 refine wy_ (dT c45) (WC.skip (via_ hK43 (WC.seq fun _ hK46 => ?_)))
 clear hK43
 refine WC.block (sr_ fun _ hK47 => ?_)
 refine WL.lit0 HS rfl rfl (by decide) rfl underlying27 (sz := 1) (by kernel_rfl) (fun v48 w49 HS => ?_)
 replace HS := HS.deriveN (p := (rF kI ([] : List Int) [])) (fun _ _ => Reps.none _ _)
 refine ad_ hK47 ?_
 clear hK47
 refine WC.seq fun K50 hK50 => ?_
 refine sr_ fun _ hK51 => ?_
 refine ad_ hK51 ?_
 clear hK51
 refine WC.block ?_
 exact by (
 obtain ⟨G52, hG53, oc54, H, Ho55⟩ := open_G H
 let J62 := fun (xs56 : List Int) v57 I58 (i59 : Int) (i60 : Int) (i61 : Int) (E_ : Env) (W_ : World) => E_ = [(0, .pointer (some ⟨b0, 0, none⟩)), (1, vi a1), (2, vi a2), (6, .pointer (some ⟨b2, 0, none⟩)), (7, .pointer (some ⟨b11, 0, none⟩)), (8, vi i20), (9, v57), (10, vi i59)] ∧ St (fun _ => True) w0 W_ [rowM w0.heap.size 3 1 v57 xs56.length I58, rowM w0.heap.size 27 1 v27 xs26.length I28, rowM w0.heap.size 27 1 v24 xs23.length I25, boxM b11 #[vi a1, v24, v27, vi (wrap64 (1 + t5.1)), vi (wrap64 (6 + t8.1))] 29, boxM b2 #[vi 0, sn, sn, vi 0, vi 0] 29, boxM b0 #[.slice A0_0 x0.f0.length c0_0, vi i60, vi i61] 83, keepM w bs_] [(frameF w b0 bs_), (cF kU A0_0 x0.f0)] [(rF kI xs56 I58), (rF kS3 xs26 I28), (rF kS3 xs23 I25)]
 have X63 : ∀ E_ W_, (∃ xs56 v57 I58 i59 i60 i61, G52 (xs56, i59, i60, i61) = some oc18 ∧ J62 xs56 v57 I58 i59 i60 i61 E_ W_) → ∀ a, Fits a 52 E_ → K50 a W_ := by
   rintro E_ w64 ⟨xs56, v57, I58, i59, i60, i61, H, rfl, HS⟩
   rw [hG53] at H
   (try dsimp only at H)
   refine hK50 _ _ ?_
   clear hK50
   refine WC.seq fun _ hK65 => ?_
   refine WC.drawW HS [boxM b11 #[vi a1, v24, v27, vi (wrap64 (1 + t5.1)), vi (wrap64 (6 + t8.1))] 29, boxM b2 #[vi 0, sn, sn, vi 0, vi 0] 29] (fun _ HS => ⟨(HS.mu 3 rfl), (HS.mu 4 rfl), trivial⟩) [8] rfl rfl (fun w66 HS => ?_)
   refine df_ 0 underlying29 ?_
   refine dm_ 2 ?_
   refine dm_ 3 ?_
   obtain ⟨A67, c68, rfl⟩ := row_slice (HS.mu 2 rfl)
   refine dt_ 1 ⟨HS.nowO, HS.nowN, ⟨(HS.mu 3 rfl), (HS.mu 4 rfl), trivial⟩⟩ (fun w_ hw_ => Run.load rfl rfl underlying25 rfl (box_cell hw_.2.2.1 rfl)) ?_
   obtain ⟨t69, ha70, H⟩ := bind_some H
   exact by (
   refine dc_ 4 (w_none rfl) func73 (sS.runs k42 b0 (⟨x0.f0, i60, i61⟩ : S83) A0_0 c0_0 a1 _ t69.1 t69.2 _ _ HS.b (HS.nodupM 5 rfl) (HS.boundM 5 rfl) (HS.footOM 5 rfl 1 rfl) hc0_0 (HS.mu 5 rfl) ha70) ?_
   clear ha70
   rintro _ w71 ⟨A72, c73, rfl, le74, hf75, hbx_, hrest_, hB1_⟩
   replace HS := HS.newM 5 rfl hB1_ hrest_ hbx_ (foot_cons hf75 foot_nil)
   dsimp only [List.set] at HS
   clear hB1_ hrest_ hbx_
   refine ⟨⟨HS.nowO, HS.nowN.2, ⟨(HS.mu 3 rfl), (HS.mu 4 rfl), trivial⟩⟩, _, rfl, ?_⟩
   have HS1 := HS.below (below_alloc (Below.refl _ _) (.cells #[.slice A72 t69.1.length c73] 27))
   refine dv_ 5 (w_none rfl) (Run.lit1 (z := (sn)) (vs := [.slice A72 t69.1.length c73]) rfl rfl rfl underlying25 (by kernel_rfl) (ble_ rfl) (ble_ rfl)) ⟨HS1.nowO, HS1.nowN.2, ⟨(HS1.mu 3 rfl), (HS1.mu 4 rfl), trivial⟩⟩ ?_
   obtain ⟨q76, H⟩ := if_some H
   refine WD.append 6 (w_none rfl) HS1 2 rfl rfl (sn) 24 underlying25 (by kernel_rfl) rfl (by decide) (by decide) rfl rfl [.slice A72 t69.1.length c73] rfl (lit_news _ _ _) (oneL rfl) (by omega) ((xs23 ++ [t69.1]).length) (by simp) (fun v77 w78 I79 hI80 HS => ?_)
   dsimp only [List.set] at HS
   replace HS := HS.deriveN (p := (rF kS3 (xs23 ++ [t69.1]) I79)) (fun W_ hN_ => reps_snoc hI80 hN_.2.2.2.1 (K_slice le74 hN_.1))
   clear HS1
   refine ⟨⟨HS.nowO, HS.nowN.2.2, ⟨(HS.mu 3 rfl), (HS.mu 4 rfl), trivial⟩⟩, ?_⟩
   refine df_ 7 underlying29 ?_
   exact by (
   obtain ⟨A82, c83, rfl⟩ := row_slice (HS.mu 2 rfl)
   refine WD.storeL 8 HS 3 rfl rfl rfl rfl rfl (by kernel_rfl) (ble_ rfl) (cs' := #[vi a1, (.slice A82 ((xs23 ++ [t69.1]).length) c83), v27, vi (wrap64 (1 + t5.1)), vi (wrap64 (6 + t8.1))]) (by kernel_rfl) (fun w81 HS => ?_)
   dsimp only [List.set] at HS
   refine dd_ (via_ hK65 (rg_ (v_ (fa_ underlying29) ?_)))
   clear hK65
   obtain ⟨A84, c85, rfl⟩ := row_slice (HS.mu 1 rfl)
   refine v_ (lb_ (HS.mu 3 rfl) underlying25 rfl) ?_
   refine mv_ ?_
   obtain ⟨A86, c87, rfl⟩ := row_slice (HS.mu 0 rfl)
   have le88 := row_le (HS.mu 0 rfl)
   replace HS := HS.freezeN 0 (p := (cF kI A86 (xs56))) rfl (fun W_ hm_ h_ => row_C (by rfl) hm_ h_.2.2.1)
   dsimp only [List.eraseIdx] at HS
   refine WL.val rfl rfl (by decide) (Run.lit1 (z := (sn)) (vs := [.slice A86 xs56.length c87]) rfl rfl rfl underlying25 (by kernel_rfl) (ble_ rfl) (ble_ rfl)) ?_
   have HS1 := HS.below (below_alloc (Below.refl _ _) (.cells #[.slice A86 xs56.length c87] 27))
   obtain ⟨q89, H⟩ := if_some H
   refine WL.append HS1 0 rfl rfl rfl (by decide) rfl (sn) 24 underlying25 (by kernel_rfl) rfl (by decide) (by decide) rfl rfl [.slice A86 xs56.length c87] rfl (lit_news _ _ _) (oneL rfl) (by omega) ((xs26 ++ [xs56]).length) (by simp) (fun v90 w91 I92 hI93 HS => ?_)
   exact by (
   dsimp only [List.set] at HS
   replace HS := HS.deriveN (p := (rF kS3 (xs26 ++ [xs56]) I92)) (fun W_ hN_ => reps_snoc hI93 hN_.2.2.2.2.1 (K_slice le88 hN_.1))
   clear HS1
   refine v_ (fa_ underlying29) ?_
   obtain ⟨A95, c96, rfl⟩ := row_slice (HS.mu 0 rfl)
   refine WL.store HS 2 rfl rfl rfl rfl rfl rfl rfl (by kernel_rfl) (ble_ rfl) (cs' := #[vi a1, (.slice A82 ((xs23 ++ [t69.1]).length) c83), (.slice A95 ((xs26 ++ [xs56]).length) c96), vi (wrap64 (1 + t5.1)), vi (wrap64 (6 + t8.1))]) (by kernel_rfl) (fun w94 HS => ?_)
   dsimp only [List.set] at HS
   refine dn_ hK46 (rg_ (mv_ ?_))
   clear hK46
   refine b_ bin_add64 ?_
   refine as_ ?_
   refine WL.done ?_
   exact wr_ k42 iq ⟨(wrap64 (i20 + 1)), t69.2.f1, t69.2.f2, (xs23 ++ [t69.1]), (.slice A82 ((xs23 ++ [t69.1]).length) c83), I79, (xs26 ++ [xs56]), (.slice A95 ((xs26 ++ [xs56]).length) c96), I92, ⟨_, H, Ho19⟩, rfl, (St.pk HS [0, 1] [0, 2] rfl rfl)⟩ )))
 clear hK50
 refine WC.loop (fun k_ E_ W_ => ∃ xs56 v57 I58 i59 i60 i61, (∃ o_, sM.l1 x0 a1 k_ xs56 i59 i60 i61 = some o_ ∧ G52 o_ = some oc18) ∧ J62 xs56 v57 I58 i59 i60 i61 E_ W_) k42 ⟨([] : List Int), v48, ([]), 0, i21, i22, ⟨_, H, Ho55⟩, rfl, HS⟩ (sb rfl) ?_
 rintro k_ E_ w98 ⟨xs56, v57, I58, i59, i60, i61, ⟨oc54, H, Ho55⟩, rfl, HS⟩
 exact by (
 rcases k_ with _ | k99
 · exact no_ H
 replace H : sM.b1 x0 a1 (sM.l1 x0 a1 k99) k99 xs56 i59 i60 i61 = some oc54 := H
 unfold sM.b1 at H
 refine WC.seq fun _ hK100 => ?_
 refine sr_ fun _ hK101 => ?_
 refine mv_ ?_
 refine mv_ ?_
 refine v_ (Run.bin rfl rfl rfl (bin_quo64 (show (4 : Int) ≠ 0 by decide))) ?_
 refine b_ bin_lss ?_
 refine dn_ hK101 ?_
 clear hK101
 rcases eti_ H with ⟨c102, H⟩ | ⟨c102, H⟩
 · refine wn_ (dF c102) (WC.exit ?_)
   obtain rfl := os H
   exact wv_ iq X63 ⟨xs56, v57, I58, i59, i60, i61, Ho55, rfl, HS⟩
 exact by (
 refine wy_ (dT c102) (WC.skip (via_ hK100 (WC.seq fun _ hK103 => ?_)))
 clear hK100
 refine WC.block (rg_ (mv_ ?_))
 refine mv_ ?_
 obtain ⟨t104, ha105, H⟩ := bind_some H
 refine c_ func14 (sB.runs k99 b0 (⟨x0.f0, i60, i61⟩ : S83) A0_0 c0_0 20 _ t104.1 t104.2 _ _ HS.b (HS.nodupM 5 rfl) (HS.boundM 5 rfl) (HS.footOM 5 rfl 1 rfl) hc0_0 (HS.mu 5 rfl) ha105) ?_
 clear ha105
 rintro _ w106 ⟨rfl, hbx_, hrest_, hB1_⟩
 replace HS := HS.calledM 5 rfl hB1_ hrest_ hbx_
 dsimp only [List.set] at HS
 clear hB1_ hrest_ hbx_
 refine ⟨_, rfl, ?_⟩
 refine b_ bin_add64 ?_
 refine WL.val rfl rfl (by decide) (Run.lit1 (z := (vi 0)) (vs := [vi (wrap64 (1 + t104.1))]) rfl rfl rfl underlying27 (by kernel_rfl) (ble_ rfl) (ble_ rfl)) ?_
 have HS1 := HS.below (below_alloc (Below.refl _ _) (.cells #[vi (wrap64 (1 + t104.1))] 3))
 obtain ⟨q107, H⟩ := if_some H
 exact by (
 refine WL.append HS1 0 rfl rfl rfl (by decide) rfl (vi 0) 8 underlying27 (by kernel_rfl) rfl (by decide) (by decide) rfl rfl [vi (wrap64 (1 + t104.1))] rfl (lit_news _ _ _) (oneL rfl) (by omega) ((xs56 ++ [wrap64 (1 + t104.1)]).length) (by simp) (fun v108 w109 I110 hI111 HS => ?_)
 dsimp only [List.set] at HS
 replace HS := HS.deriveN (p := (rF kI (xs56 ++ [wrap64 (1 + t104.1)]) I110)) (fun W_ hN_ => reps_snoc hI111 hN_.1 (K_int _))
 clear HS1
 refine ad_ hK103 ?_
 clear hK103
 refine rg_ (mv_ ?_)
 refine b_ bin_add64 ?_
 refine as_ ?_
 refine WL.done ?_
 exact wr_ k99 iq ⟨(xs56 ++ [wrap64 (1 + t104.1)]), v108, I110, (wrap64 (i59 + 1)), t104.2.f1, t104.2.f2, ⟨_, H, Ho55⟩, rfl, (St.pk HS [0, 1] [0, 2, 3] rfl rfl)⟩ )))))))
def sM2.b0 (x0 : S83) (rec_ : (List S54) → Int → Int → Int → Option (((List S54) × S83) ⊕ ((List S54) × Int × Int × Int))) (k26 : Nat) (xs11 : List S54) (i14 : Int) (i15 : Int) (i16 : Int) : Option (((List S54) × S83) ⊕ ((List S54) × Int × Int × Int)) := ((sB.g k26 (⟨x0.f0, i15, i16⟩ : S83) 9).bind fun t29 => (if i14 < t29.1 then ((((sB.g k26 (⟨x0.f0, t29.2.f1, t29.2.f2⟩ : S83) 3).bind fun t47 => ((sB.g k26 (⟨x0.f0, t47.2.f1, t47.2.f2⟩ : S83) 3).bind fun t50 => (((if i14 > 0 then ((spec_l01Once.g k26 (⟨x0.f0, t50.2.f1, t50.2.f2⟩ : S83) 2).bind fun t177 => (if t177.1 = true then ((sB.g k26 (⟨x0.f0, t177.2.f1, t177.2.f2⟩ : S83) i14).bind fun t181 => (some (t181.2.f1, t181.2.f2, wrap64 (256 + t181.1)))) else (some (t177.2.f1, t177.2.f2, wrap64 (97 + t47.1))))) else (some (t50.2.f1, t50.2.f2, wrap64 (97 + t47.1)))) : Option (Int × Int × Int)).bind (fun oc174 => (((if i14 > 0 then ((spec_l01Once.g k26 (⟨x0.f0, oc174.1, oc174.2.1⟩ : S83) 3).bind fun t166 => (if t166.1 = true then ((sB.g k26 (⟨x0.f0, t166.2.f1, t166.2.f2⟩ : S83) i14).bind fun t170 => (some (t170.2.f1, t170.2.f2, wrap64 (256 + t170.1)))) else (some (t166.2.f1, t166.2.f2, wrap64 (97 + t50.1))))) else (some (oc174.1, oc174.2.1, wrap64 (97 + t50.1)))) : Option (Int × Int × Int)).bind (fun oc163 => (if (0) + (xs11.length) < 4294967296 then (if ((([] : List S54) ++ xs11).length) < 4294967296 then ((((sMO.g k26 ((([] : List S54) ++ xs11) ++ [(⟨oc174.2.2, oc163.2.2⟩ : S54)])).bind fun t159 => (if t159 = true then (some ((([] : List S54) ++ xs11) ++ [(⟨oc174.2.2, oc163.2.2⟩ : S54)])) else (some xs11))) : Option (List S54)).bind (fun oc155 => (if (oc155.length : Int) ≤ i14 then (some (Sum.inl (oc155, (⟨x0.f0, oc163.1, oc163.2.1⟩ : S83)))) else (some (Sum.inr (oc155, oc163.1, oc163.2.1)))))) else none) else none))))))) : Option (((List S54) × S83) ⊕ ((List S54) × Int × Int))).bind (fun oc45 => match oc45 with | .inl r_ => some (Sum.inl r_) | .inr ⟨xs38, i41, i42⟩ => (rec_ xs38 (wrap64 (i14 + 1)) i41 i42))) else (some (Sum.inr (xs11, i14, t29.2.f1, t29.2.f2)))))
def sM2.l0 (x0 : S83) : Nat → (List S54) → Int → Int → Int → Option (((List S54) × S83) ⊕ ((List S54) × Int × Int × Int))
 | 0, _, _, _, _ => none
 | k + 1, xs11, i14, i15, i16 => sM2.b0 x0 (sM2.l0 x0 k) k xs11 i14 i15 i16
def sM2.g (k : Nat) (x0 : S83) : Option ((List S54) × S83) := ((sM2.l0 x0 k ([] : List S54) 0 x0.f1 x0.f2).bind (fun oc24 => match oc24 with | .inl r_ => some r_ | .inr ⟨xs11, i14, i15, i16⟩ => (some (xs11, (⟨x0.f0, i15, i16⟩ : S83)))))
theorem sM2.runs (k : Nat) (b0 : Nat) (x0 : S83) (A0_0 : Option Addr) (c0_0 : Nat) (bs_ : List Nat) (r1 : List S54) (y_ : S83) (w0 w : World) (hB_ : Below w0.heap.size w0 w) (hn_ : (b0 :: bs_).Nodup) (hl_ : ∀ k, k ∈ b0 :: bs_ → w0.heap.size ≤ k ∧ k < w.heap.size) (hr0_0 : Foot (cF kU A0_0 x0.f0) w (fun k_ => k_ ∉ b0 :: bs_)) (hc0_0 : x0.f0.length ≤ c0_0) (hb0 : w.heap[b0]? = some (.cells #[.slice A0_0 x0.f0.length c0_0, vi x0.f1, vi x0.f2] 83 (0, 0))) (H : sM2.g k x0 = some (r1, y_)) :
   Calls prog 40 #[.pointer (some ⟨b0, 0, none⟩)] w fun e w' => ∃ (A0_ : Option Addr) (c0_ : Nat), e = .returned (.slice A0_ r1.length c0_) ∧ r1.length ≤ c0_ ∧ Foot (cF k54 A0_ r1) w' (fun k_ => w0.heap.size ≤ k_ ∧ k_ ∉ b0 :: bs_) ∧ w'.heap[b0]? = some (.cells #[.slice A0_0 x0.f0.length c0_0, vi y_.f1, vi y_.f2] 83 (0, 0)) ∧ RestOf w w' b0 ∧ Below w0.heap.size w0 w' := by
 unfold sM2.g at H
 have HS : St (fun _ => True) w0 w [boxM b0 #[.slice A0_0 x0.f0.length c0_0, vi x0.f1, vi x0.f2] 83, keepM w bs_] [(frameF w b0 bs_), (cF kU A0_0 x0.f0)] [] := St.startM hB_ hn_ hl_ hb0 (foot_cons hr0_0 foot_nil)
 refine cw_ (n := 58) func40 fun R_ hR_ => ?_
 refine sr_ fun _ hK1 => ?_
 refine ad_ hK1 ?_
 clear hK1
 refine sr_ fun _ hK2 => ?_
 refine WL.lit0 HS rfl rfl (by decide) rfl underlying24 (sz := 2) (by kernel_rfl) (fun v3 w4 HS => ?_)
 replace HS := HS.deriveN (p := (rF k54 ([] : List S54) [])) (fun _ _ => Reps.none _ _)
 refine ad_ hK2 ?_
 clear hK2
 refine WC.seq fun K5 hK5 => ?_
 refine sr_ fun _ hK6 => ?_
 refine ad_ hK6 ?_
 clear hK6
 refine WC.block ?_
 exact by (
 obtain ⟨G7, hG8, oc9, H, Ho10⟩ := open_G H
 let J17 := fun (xs11 : List S54) v12 I13 (i14 : Int) (i15 : Int) (i16 : Int) (E_ : Env) (W_ : World) => E_ = [(0, .pointer (some ⟨b0, 0, none⟩)), (3, v12), (4, vi i14)] ∧ St (fun _ => True) w0 W_ [rowM w0.heap.size 54 2 v12 xs11.length I13, boxM b0 #[.slice A0_0 x0.f0.length c0_0, vi i15, vi i16] 83, keepM w bs_] [(frameF w b0 bs_), (cF kU A0_0 x0.f0)] [(rF k54 xs11 I13)]
 have X18 : ∀ E_ W_, (∃ xs11 v12 I13 i14 i15 i16, G7 (Sum.inr (xs11, i14, i15, i16)) = some (r1, y_) ∧ J17 xs11 v12 I13 i14 i15 i16 E_ W_) → ∀ a, Fits a 58 E_ → K5 a W_ := by
   rintro E_ w19 ⟨xs11, v12, I13, i14, i15, i16, H, rfl, HS⟩
   rw [hG8] at H
   (try dsimp only at H)
   refine hK5 _ _ ?_
   clear hK5
   refine sr_ fun _ hK20 => ?_
   refine mv_ ?_
   refine ad_ hK20 ?_
   clear hK20
   refine WC.ret ?_
   obtain ⟨A21, c22, rfl⟩ := row_slice (HS.mu 0 rfl)
   have le23 := row_le (HS.mu 0 rfl)
   replace HS := HS.freezeN 0 (p := (cF k54 A21 (xs11))) rfl (fun W_ hm_ h_ => row_C (by rfl) hm_ h_.1)
   exact by (
   dsimp only [List.eraseIdx] at HS
   obtain ⟨rfl, rfl⟩ := Prod.mk.inj (os H)
   have HSf := HS
   exact fin1 Try.f40 rfl rfl hR_ ⟨_, _, rfl, le23, (foot_freshM (HSf.footN 0 rfl)), (HSf.mu 0 rfl), (rest_of (HSf.getO 0 rfl) (HSf.mu 1 rfl)), HSf.b⟩ )
 clear hK5
 refine WC.loop (fun k_ E_ W_ => ∃ xs11 v12 I13 i14 i15 i16, (∃ o_, sM2.l0 x0 k_ xs11 i14 i15 i16 = some o_ ∧ G7 o_ = some (r1, y_)) ∧ J17 xs11 v12 I13 i14 i15 i16 E_ W_) k ⟨([] : List S54), v3, ([]), 0, x0.f1, x0.f2, ⟨_, H, Ho10⟩, rfl, HS⟩ (sb rfl) ?_
 rintro k_ E_ w25 ⟨xs11, v12, I13, i14, i15, i16, ⟨oc9, H, Ho10⟩, rfl, HS⟩
 rcases k_ with _ | k26
 · exact no_ H
 replace H : sM2.b0 x0 (sM2.l0 x0 k26) k26 xs11 i14 i15 i16 = some oc9 := H
 unfold sM2.b0 at H
 refine WC.seq fun _ hK27 => ?_
 refine sr_ fun _ hK28 => ?_
 refine mv_ ?_
 refine mv_ ?_
 obtain ⟨t29, ha30, H⟩ := bind_some H
 exact by (
 refine c_ func14 (sB.runs k26 b0 (⟨x0.f0, i15, i16⟩ : S83) A0_0 c0_0 9 _ t29.1 t29.2 _ _ HS.b (HS.nodupM 1 rfl) (HS.boundM 1 rfl) (HS.footOM 1 rfl 1 rfl) hc0_0 (HS.mu 1 rfl) ha30) ?_
 clear ha30
 rintro _ w31 ⟨rfl, hbx_, hrest_, hB1_⟩
 replace HS := HS.calledM 1 rfl hB1_ hrest_ hbx_
 dsimp only [List.set] at HS
 clear hB1_ hrest_ hbx_
 refine ⟨_, rfl, ?_⟩
 refine b_ bin_lss ?_
 refine dn_ hK28 ?_
 clear hK28
 rcases eti_ H with ⟨c32, H⟩ | ⟨c32, H⟩
 · refine wn_ (dF c32) (WC.exit ?_)
   obtain rfl := os H
   exact wv_ iq X18 ⟨xs11, v12, I13, i14, t29.2.f1, t29.2.f2, Ho10, rfl, HS⟩
 refine wy_ (dT c32) (WC.skip (via_ hK27 (WC.seq fun K33 hK33 => ?_)))
 clear hK27
 exact by (
 obtain ⟨G34, hG35, oc36, H, Ho37⟩ := open_G H
 have X43 : ∀ E_ W_, (∃ (xs38 : List S54) (v39 : Value) (I40 : List Value) (i41 : Int) (i42 : Int), E_ = [(0, .pointer (some ⟨b0, 0, none⟩)), (3, v39), (4, vi i14)] ∧ G34 (Sum.inr (xs38, i41, i42)) = some oc9 ∧ St (fun _ => True) w0 W_ [rowM w0.heap.size 54 2 v39 xs38.length I40, boxM b0 #[.slice A0_0 x0.f0.length c0_0, vi i41, vi i42] 83, keepM w bs_] [(frameF w b0 bs_), (cF kU A0_0 x0.f0)] [(rF k54 xs38 I40)]) → ∀ a, Fits a 58 E_ → K33 a W_ := by
   rintro E_ w44 ⟨xs38, v39, I40, i41, i42, rfl, H, HS⟩
   rw [hG35] at H
   (try dsimp only at H)
   refine hK33 _ _ ?_
   clear hK33
   refine rg_ (mv_ ?_)
   refine b_ bin_add64 ?_
   refine as_ ?_
   refine WL.done ?_
   exact wr_ k26 iq ⟨xs38, v39, I40, (wrap64 (i14 + 1)), i41, i42, ⟨_, H, Ho10⟩, rfl, HS⟩
 clear hK33
 refine WC.block (sr_ fun _ hK46 => ?_)
 refine mv_ ?_
 obtain ⟨t47, ha48, H⟩ := bind_some H
 exact by (
 refine c_ func14 (sB.runs k26 b0 (⟨x0.f0, t29.2.f1, t29.2.f2⟩ : S83) A0_0 c0_0 3 _ t47.1 t47.2 _ _ HS.b (HS.nodupM 1 rfl) (HS.boundM 1 rfl) (HS.footOM 1 rfl 1 rfl) hc0_0 (HS.mu 1 rfl) ha48) ?_
 clear ha48
 rintro _ w49 ⟨rfl, hbx_, hrest_, hB1_⟩
 replace HS := HS.calledM 1 rfl hB1_ hrest_ hbx_
 dsimp only [List.set] at HS
 clear hB1_ hrest_ hbx_
 refine ⟨_, rfl, ?_⟩
 refine b_ bin_add64 ?_
 refine mv_ ?_
 obtain ⟨t50, ha51, H⟩ := bind_some H
 refine c_ func14 (sB.runs k26 b0 (⟨x0.f0, t47.2.f1, t47.2.f2⟩ : S83) A0_0 c0_0 3 _ t50.1 t50.2 _ _ HS.b (HS.nodupM 1 rfl) (HS.boundM 1 rfl) (HS.footOM 1 rfl 1 rfl) hc0_0 (HS.mu 1 rfl) ha51) ?_
 clear ha51
 rintro _ w52 ⟨rfl, hbx_, hrest_, hB1_⟩
 replace HS := HS.calledM 1 rfl hB1_ hrest_ hbx_
 dsimp only [List.set] at HS
 clear hB1_ hrest_ hbx_
 exact by (
 refine ⟨_, rfl, ?_⟩
 refine b_ bin_add64 ?_
 refine v_ (Run.build (cells := #[vi (wrap64 (97 + t47.1)), vi (wrap64 (97 + t50.1))]) rfl [(0, vi (wrap64 (97 + t47.1))), (1, vi (wrap64 (97 + t50.1)))] ⟨⟨rfl, rfl⟩, ⟨⟨rfl, rfl⟩, trivial⟩⟩ (by kernel_rfl)) ?_
 refine WL.alloc HS (v := .agg #[vi 0, vi 0]) (cs := #[vi 0, vi 0]) rfl rfl (by decide) rfl (by kernel_rfl) rfl (fun b53 w54 hb53 HS => ?_)
 refine WL.storeW HS 0 rfl rfl rfl rfl rfl rfl (oneL rfl) (by kernel_rfl) rfl (fun w55 HS => ?_)
 dsimp only [List.set] at HS
 refine dn_ hK46 (WC.seq fun K56 hK56 => ?_)
 clear hK46
 obtain ⟨G57, hG58, oc59, H, Ho60⟩ := open_G H
 have X64 : ∀ E_ W_, (∃ (i61 : Int) (i62 : Int) (i63 : Int), E_ = [(0, .pointer (some ⟨b0, 0, none⟩)), (3, v12), (4, vi i14), (5, .pointer (some ⟨b53, 0, none⟩))] ∧ G57 (i61, i62, i63) = some oc36 ∧ St (fun _ => True) w0 W_ [boxM b53 #[vi i63, vi (wrap64 (97 + t50.1))] 54, rowM w0.heap.size 54 2 v12 xs11.length I13, boxM b0 #[.slice A0_0 x0.f0.length c0_0, vi i61, vi i62] 83, keepM w bs_] [(frameF w b0 bs_), (cF kU A0_0 x0.f0)] [(rF k54 xs11 I13)]) → ∀ a, Fits a 58 E_ → K56 a W_ := by
   rintro E_ w65 ⟨i61, i62, i63, rfl, H, HS⟩
   rw [hG58] at H
   (try dsimp only at H)
   refine hK56 _ _ ?_
   clear hK56
   refine WC.seq fun K66 hK66 => ?_
   exact by (
   obtain ⟨G67, hG68, oc69, H, Ho70⟩ := open_G H
   have X74 : ∀ E_ W_, (∃ (i71 : Int) (i72 : Int) (i73 : Int), E_ = [(0, .pointer (some ⟨b0, 0, none⟩)), (3, v12), (4, vi i14), (5, .pointer (some ⟨b53, 0, none⟩))] ∧ G67 (i71, i72, i73) = some oc36 ∧ St (fun _ => True) w0 W_ [boxM b53 #[vi i63, vi i73] 54, rowM w0.heap.size 54 2 v12 xs11.length I13, boxM b0 #[.slice A0_0 x0.f0.length c0_0, vi i71, vi i72] 83, keepM w bs_] [(frameF w b0 bs_), (cF kU A0_0 x0.f0)] [(rF k54 xs11 I13)]) → ∀ a, Fits a 58 E_ → K66 a W_ := by
     rintro E_ w75 ⟨i71, i72, i73, rfl, H, HS⟩
     rw [hG68] at H
     (try dsimp only at H)
     refine hK66 _ _ ?_
     clear hK66
     refine WC.seq fun K76 hK76 => ?_
     refine WC.drawW HS [boxM b53 #[vi i63, vi i73] 54, boxM b0 #[.slice A0_0 x0.f0.length c0_0, vi i71, vi i72] 83] (fun _ HS => ⟨(HS.mu 0 rfl), (HS.mu 2 rfl), trivial⟩) [] rfl rfl (fun w77 HS => ?_)
     refine dm_ 1 ?_
     refine dt_ 3 ⟨HS.nowO, HS.nowN, ⟨(HS.mu 0 rfl), (HS.mu 2 rfl), trivial⟩⟩ (fun w_ hw_ => Run.loadS (cs := [vi i63, vi i73]) rfl rfl underlying54 rfl (by kernel_rfl) (box_part hw_.2.2.1 part_all)) ?_
     have X78 : ∀ E_ W_, (∃ (A87 : Option Addr) (c88 : Nat) (v94 : Value) (v79 : Value) (v89 : Value) (I96 : List Value) (I91 : List Value), E_ = [(0, .pointer (some ⟨b0, 0, none⟩)), (3, (.slice A87 xs11.length c88)), (4, vi i14), (5, .pointer (some ⟨b53, 0, none⟩)), (6, v94), (43, v79), (44, (.slice A87 xs11.length c88)), (45, v89), (46, .agg #[vi i63, vi i73]), (48, v94)] ∧ ((((sMO.g k26 ((([] : List S54) ++ xs11) ++ [(⟨i63, i73⟩ : S54)])).bind fun t159 => (if t159 = true then (some ((([] : List S54) ++ xs11) ++ [(⟨i63, i73⟩ : S54)])) else (some xs11))) : Option (List S54)).bind (fun oc155 => (if (oc155.length : Int) ≤ i14 then (some (Sum.inl (oc155, (⟨x0.f0, i71, i72⟩ : S83)))) else (some (Sum.inr (oc155, i71, i72)))))) = some oc36 ∧ St (fun _ => True) w0 W_ [rowM w0.heap.size 54 2 v94 (((([] : List S54) ++ xs11) ++ [(⟨i63, i73⟩ : S54)]).length) I96, boxM b53 #[vi i63, vi i73] 54, rowM w0.heap.size 54 2 (.slice A87 xs11.length c88) xs11.length I13, boxM b0 #[.slice A0_0 x0.f0.length c0_0, vi i71, vi i72] 83, keepM w bs_] [(frameF w b0 bs_), (cF kU A0_0 x0.f0)] [(rF k54 ((([] : List S54) ++ xs11) ++ [(⟨i63, i73⟩ : S54)]) I96), (rF k54 (([] : List S54) ++ xs11) I91), (rF k54 ([] : List S54) []), (rF k54 xs11 I13)]) → ∀ a, Fits a 58 E_ → K76 a W_ := by
       rintro E_ w138 ⟨A87, c88, v94, v79, v89, I96, I91, rfl, H, HS⟩
       refine hK76 _ _ ?_
       clear hK76
       refine WC.seq fun K139 hK139 => ?_
       exact by (
       obtain ⟨G140, hG141, oc142, H, Ho143⟩ := open_G H
       have X147 : ∀ E_ W_, (∃ (xs144 : List S54) (v145 : Value) (I146 : List Value), E_ = [(0, .pointer (some ⟨b0, 0, none⟩)), (3, v145), (4, vi i14)] ∧ G140 xs144 = some oc36 ∧ St (fun _ => True) w0 W_ [boxM b53 #[vi i63, vi i73] 54, rowM w0.heap.size 54 2 v145 xs144.length I146, boxM b0 #[.slice A0_0 x0.f0.length c0_0, vi i71, vi i72] 83, keepM w bs_] [(frameF w b0 bs_), (cF kU A0_0 x0.f0)] [(rF k54 xs144 I146)]) → ∀ a, Fits a 58 E_ → K139 a W_ := by
         rintro E_ w148 ⟨xs144, v145, I146, rfl, H, HS⟩
         rw [hG141] at H
         (try dsimp only at H)
         refine hK139 _ _ ?_
         clear hK139
         refine sr_ fun _ hK149 => ?_
         refine mv_ ?_
         obtain ⟨A150, c151, rfl⟩ := row_slice (HS.mu 1 rfl)
         refine ln_ underlying24 ?_
         refine mv_ ?_
         refine b_ bin_leq ?_
         refine dn_ hK149 ?_
         clear hK149
         rcases eti_ H with ⟨c152, H⟩ | ⟨c152, H⟩
         · refine wn_ (dF c152) (WC.skip ?_)
           obtain rfl := os H
           exact wv_ iq X43 ⟨xs144, (.slice A150 xs144.length c151), I146, i71, i72, rfl, Ho37, (St.forget HS 0 rfl)⟩
         exact by (
         refine wy_ (dT c152) (sr_ fun _ hK153 => ?_)
         refine mv_ ?_
         refine ad_ hK153 ?_
         clear hK153
         refine WC.ret ?_
         have le154 := row_le (HS.mu 1 rfl)
         replace HS := HS.freezeN 1 (p := (cF k54 A150 (xs144))) rfl (fun W_ hm_ h_ => row_C (by rfl) hm_ h_.1)
         dsimp only [List.eraseIdx] at HS
         obtain rfl := os H
         rw [hG35] at Ho37
         replace H : some _ = some _ := Ho37
         obtain rfl := os H
         rw [hG8] at Ho10
         replace H : some _ = some _ := Ho10
         obtain ⟨rfl, rfl⟩ := Prod.mk.inj (os H)
         have HSf := (St.forget HS 0 rfl)
         exact fin1 Try.f40 rfl rfl hR_ ⟨_, _, rfl, le154, (foot_freshM (HSf.footN 0 rfl)), (HSf.mu 0 rfl), (rest_of (HSf.getO 0 rfl) (HSf.mu 1 rfl)), HSf.b⟩ )
       exact by (
       clear hK139
       refine sr_ fun _ hK156 => ?_
       refine mv_ ?_
       obtain ⟨A157, c158, rfl⟩ := row_slice (HS.mu 0 rfl)
       obtain ⟨t159, ha160, H⟩ := bind_some H
       refine cs_ HS func32 (sMO.runs k26 A157 c158 ((([] : List S54) ++ xs11) ++ [(⟨i63, i73⟩ : S54)]) t159 _ (row_C rfl (HS.mu 0 rfl) (HS.getN 0 rfl)) (row_le (HS.mu 0 rfl)) ha160) (fun w161 HS => ?_)
       clear ha160
       refine dn_ hK156 ?_
       clear hK156
       rcases eti_ H with ⟨c162, H⟩ | ⟨c162, H⟩
       · refine wn_ (bF c162) (WC.skip ?_)
         obtain rfl := os H
         exact wv_ iq X147 ⟨xs11, (.slice A87 xs11.length c88), I13, rfl, Ho143, (St.pk (St.forget HS 0 rfl) [0, 1] [3] rfl rfl)⟩
       refine wy_ c162 ?_
       refine rg_ (mv_ ?_)
       refine as_ ?_
       exact by (
       refine WL.done ?_
       obtain rfl := os H
       exact wv_ iq X147 ⟨((([] : List S54) ++ xs11) ++ [(⟨i63, i73⟩ : S54)]), (.slice A157 (((([] : List S54) ++ xs11) ++ [(⟨i63, i73⟩ : S54)]).length) c158), I96, rfl, Ho143, (St.pk (St.front (St.front (St.front (St.front (St.forget HS 2 rfl) 3 rfl) 3 rfl) 2 rfl) 3 rfl) [0, 1] [0] rfl rfl)⟩ )))
     refine two__ 0 4 ?_ ?_
     · have HT_ := True.intro
       refine WDo.lit0 0 (w_none rfl) HS rfl underlying24 (sz := 2) (by kernel_rfl) (fun v79 w80 HS => ?_)
       replace HS := HS.deriveN (p := (rF k54 ([] : List S54) [])) (fun _ _ => Reps.none _ _)
       refine ⟨⟨HS.nowO, HS.nowN.2, ⟨(HS.mu 1 rfl), (HS.mu 3 rfl), trivial⟩⟩, ?_⟩
       refine two__ 2 4 ?_ ?_
       · have HT_ := True.intro
         obtain ⟨q81, H⟩ := if_some H
         obtain ⟨A87, c88, rfl⟩ := row_slice (HS.mu 2 rfl)
         obtain ⟨hl83, h84, hc86⟩ := row_all (dd := k54) (HS.mu 2 rfl) (HS.getN 1 rfl) (by decide)
         refine WDo.appendL 2 (w_none rfl) HS 0 rfl rfl (.agg #[vi 0, vi 0]) 16 underlying24 (by kernel_rfl) rfl (by decide) (by decide) rfl rfl I13 hl83 hc86 h84 (by omega) ((([] : List S54) ++ xs11).length) (by simp <;> omega) (fun v89 w90 I91 hI92 HS => ?_)
         dsimp only [List.set] at HS
         replace HS := HS.deriveN (p := (rF k54 (([] : List S54) ++ xs11) I91)) (fun W_ hN_ => reps_more hI92 hN_.1 hN_.2.1)
         exact by (
         refine ⟨⟨HS.nowO, HS.nowN.2.2, ⟨(HS.mu 1 rfl), (HS.mu 3 rfl), trivial⟩⟩, ?_⟩
         have HS1 := HS.below (below_alloc (Below.refl _ _) (.cells #[vi i63, vi i73] 54))
         refine dv_ 4 (w_none rfl) (Run.lit1 (z := (.agg #[vi 0, vi 0])) (vs := [vi i63, vi i73]) rfl rfl rfl underlying24 (by kernel_rfl) (ble_ rfl) (ble_ rfl)) ⟨HS1.nowO, HS1.nowN.2.2, ⟨(HS1.mu 1 rfl), (HS1.mu 3 rfl), trivial⟩⟩ ?_
         obtain ⟨q93, H⟩ := if_some H
         refine WD.append 5 (w_none rfl) HS1 0 rfl rfl (.agg #[vi 0, vi 0]) 16 underlying24 (by kernel_rfl) rfl (by decide) (by decide) rfl rfl [vi i63, vi i73] rfl (lit_news _ _ _) (oneL rfl) (by omega) (((([] : List S54) ++ xs11) ++ [(⟨i63, i73⟩ : S54)]).length) (by simp) (fun v94 w95 I96 hI97 HS => ?_)
         dsimp only [List.set] at HS
         replace HS := HS.deriveN (p := (rF k54 ((([] : List S54) ++ xs11) ++ [(⟨i63, i73⟩ : S54)]) I96)) (fun W_ hN_ => reps_snoc hI97 hN_.1 (k54_mk _ (⟨i63, i73⟩ : S54)))
         clear HS1
         refine ⟨⟨HS.nowO, HS.nowN.2.2.2, ⟨(HS.mu 1 rfl), (HS.mu 3 rfl), trivial⟩⟩, ?_⟩
         refine dp_ 6 (fun _ => Run.assign rfl rfl) ?_
         exact dd_ (wv_ iq X78 ⟨A87, c88, v94, v79, v89, I96, I91, rfl, H, HS⟩) )
       · have HT_ := True.intro
         refine WDo.lit1b 4 (w_none rfl) HS (z := (.agg #[vi 0, vi 0])) (vs := [vi i63, vi i73]) rfl rfl rfl underlying24 (by kernel_rfl) (ble_ rfl) (ble_ rfl) (fun b98 w99 hb98 HS => ?_)
         refine ⟨⟨HS.nowO, HS.nowN.2, ⟨(HS.mu 2 rfl), (HS.mu 4 rfl), trivial⟩⟩, ?_⟩
         obtain ⟨q100, H⟩ := if_some H
         obtain ⟨A106, c107, rfl⟩ := row_slice (HS.mu 3 rfl)
         exact by (
         obtain ⟨hl102, h103, hc105⟩ := row_all (dd := k54) (HS.mu 3 rfl) (HS.getN 1 rfl) (by decide)
         refine WD.appendL 2 (w_none rfl) HS 1 rfl rfl (.agg #[vi 0, vi 0]) 16 underlying24 (by kernel_rfl) rfl (by decide) (by decide) rfl rfl I13 hl102 hc105 h103 (by omega) ((([] : List S54) ++ xs11).length) (by simp <;> omega) (fun v108 w109 I110 hI111 HS => ?_)
         dsimp only [List.set] at HS
         replace HS := HS.deriveN (p := (rF k54 (([] : List S54) ++ xs11) I110)) (fun W_ hN_ => reps_more hI111 hN_.1 hN_.2.1)
         refine ⟨⟨HS.nowO, HS.nowN.2.2, ⟨(HS.mu 2 rfl), (HS.mu 4 rfl), trivial⟩⟩, ?_⟩
         obtain ⟨q112, H⟩ := if_some H
         refine WD.append 5 (w_none rfl) HS 1 rfl rfl (.agg #[vi 0, vi 0]) 16 underlying24 (by kernel_rfl) rfl (by decide) (by decide) rfl rfl [vi i63, vi i73] rfl (box_part (HS.mu 0 rfl) part_all) (oneL rfl) (by omega) (((([] : List S54) ++ xs11) ++ [(⟨i63, i73⟩ : S54)]).length) (by simp) (fun v113 w114 I115 hI116 HS => ?_)
         dsimp only [List.set] at HS
         replace HS := HS.deriveN (p := (rF k54 ((([] : List S54) ++ xs11) ++ [(⟨i63, i73⟩ : S54)]) I115)) (fun W_ hN_ => reps_snoc hI116 hN_.1 (k54_mk _ (⟨i63, i73⟩ : S54)))
         refine ⟨⟨HS.nowO, HS.nowN.2.2.2, ⟨(HS.mu 2 rfl), (HS.mu 4 rfl), trivial⟩⟩, ?_⟩
         refine dp_ 6 (fun _ => Run.assign rfl rfl) ?_
         exact dd_ (wv_ iq X78 ⟨A106, c107, v113, v79, v108, I115, I110, rfl, H, (St.forget HS 0 rfl)⟩) )
     · have HT_ := True.intro
       refine WDo.lit1b 4 (w_none rfl) HS (z := (.agg #[vi 0, vi 0])) (vs := [vi i63, vi i73]) rfl rfl rfl underlying24 (by kernel_rfl) (ble_ rfl) (ble_ rfl) (fun b117 w118 hb117 HS => ?_)
       refine ⟨⟨HS.nowO, HS.nowN, ⟨(HS.mu 1 rfl), (HS.mu 3 rfl), trivial⟩⟩, ?_⟩
       refine WD.lit0 0 (w_none rfl) HS rfl underlying24 (sz := 2) (by kernel_rfl) (fun v119 w120 HS => ?_)
       exact by (
       replace HS := HS.deriveN (p := (rF k54 ([] : List S54) [])) (fun _ _ => Reps.none _ _)
       refine ⟨⟨HS.nowO, HS.nowN.2, ⟨(HS.mu 2 rfl), (HS.mu 4 rfl), trivial⟩⟩, ?_⟩
       obtain ⟨q121, H⟩ := if_some H
       obtain ⟨A127, c128, rfl⟩ := row_slice (HS.mu 3 rfl)
       obtain ⟨hl123, h124, hc126⟩ := row_all (dd := k54) (HS.mu 3 rfl) (HS.getN 1 rfl) (by decide)
       refine WD.appendL 2 (w_none rfl) HS 0 rfl rfl (.agg #[vi 0, vi 0]) 16 underlying24 (by kernel_rfl) rfl (by decide) (by decide) rfl rfl I13 hl123 hc126 h124 (by omega) ((([] : List S54) ++ xs11).length) (by simp <;> omega) (fun v129 w130 I131 hI132 HS => ?_)
       dsimp only [List.set] at HS
       replace HS := HS.deriveN (p := (rF k54 (([] : List S54) ++ xs11) I131)) (fun W_ hN_ => reps_more hI132 hN_.1 hN_.2.1)
       refine ⟨⟨HS.nowO, HS.nowN.2.2, ⟨(HS.mu 2 rfl), (HS.mu 4 rfl), trivial⟩⟩, ?_⟩
       obtain ⟨q133, H⟩ := if_some H
       refine WD.append 5 (w_none rfl) HS 0 rfl rfl (.agg #[vi 0, vi 0]) 16 underlying24 (by kernel_rfl) rfl (by decide) (by decide) rfl rfl [vi i63, vi i73] rfl (box_part (HS.mu 1 rfl) part_all) (oneL rfl) (by omega) (((([] : List S54) ++ xs11) ++ [(⟨i63, i73⟩ : S54)]).length) (by simp) (fun v134 w135 I136 hI137 HS => ?_)
       dsimp only [List.set] at HS
       replace HS := HS.deriveN (p := (rF k54 ((([] : List S54) ++ xs11) ++ [(⟨i63, i73⟩ : S54)]) I136)) (fun W_ hN_ => reps_snoc hI137 hN_.1 (k54_mk _ (⟨i63, i73⟩ : S54)))
       refine ⟨⟨HS.nowO, HS.nowN.2.2.2, ⟨(HS.mu 2 rfl), (HS.mu 4 rfl), trivial⟩⟩, ?_⟩
       refine dp_ 6 (fun _ => Run.assign rfl rfl) ?_
       exact dd_ (wv_ iq X78 ⟨A127, c128, v134, v119, v129, I136, I131, rfl, H, (St.forget HS 1 rfl)⟩) )
   exact by (
   clear hK66
   refine sr_ fun _ hK164 => ?_
   refine mv_ ?_
   refine b_ bin_gtr ?_
   refine mv_ ?_
   rcases eti_ H with ⟨c165, H⟩ | ⟨c165, H⟩
   · refine off_ (c' := false) (dF c165) ?_
     refine off_ (c' := false) (dF c165) ?_
     refine v_ (Run.pickF rfl rfl (dF c165) rfl) ?_
     refine dn_ hK164 (wn_ rfl ?_)
     clear hK164
     refine WC.skip ?_
     obtain rfl := os H
     exact wv_ iq X74 ⟨i61, i62, (wrap64 (97 + t50.1)), rfl, Ho70, HS⟩
   refine on_ (dT c165) (mv_ ?_)
   refine on_ (dT c165) ?_
   exact by (
   obtain ⟨t166, ha167, H⟩ := bind_some H
   refine c_ func72 (spec_l01Once.runs k26 b0 (⟨x0.f0, i61, i62⟩ : S83) A0_0 c0_0 3 _ t166.1 t166.2 _ _ HS.b (HS.nodupM 2 rfl) (HS.boundM 2 rfl) (HS.footOM 2 rfl 1 rfl) hc0_0 (HS.mu 2 rfl) ha167) ?_
   clear ha167
   rintro _ w168 ⟨rfl, hbx_, hrest_, hB1_⟩
   replace HS := HS.calledM 2 rfl hB1_ hrest_ hbx_
   dsimp only [List.set] at HS
   clear hB1_ hrest_ hbx_
   refine ⟨_, rfl, ?_⟩
   refine v_ (Run.pickT rfl rfl (dT c165) rfl) ?_
   refine dn_ hK164 ?_
   clear hK164
   rcases eti_ H with ⟨c169, H⟩ | ⟨c169, H⟩
   · refine wn_ (bF c169) (WC.skip ?_)
     obtain rfl := os H
     exact wv_ iq X74 ⟨t166.2.f1, t166.2.f2, (wrap64 (97 + t50.1)), rfl, Ho70, HS⟩
   refine wy_ c169 ?_
   exact by (
   refine rg_ (mv_ ?_)
   refine mv_ ?_
   obtain ⟨t170, ha171, H⟩ := bind_some H
   refine c_ func14 (sB.runs k26 b0 (⟨x0.f0, t166.2.f1, t166.2.f2⟩ : S83) A0_0 c0_0 i14 _ t170.1 t170.2 _ _ HS.b (HS.nodupM 2 rfl) (HS.boundM 2 rfl) (HS.footOM 2 rfl 1 rfl) hc0_0 (HS.mu 2 rfl) ha171) ?_
   clear ha171
   rintro _ w172 ⟨rfl, hbx_, hrest_, hB1_⟩
   replace HS := HS.calledM 2 rfl hB1_ hrest_ hbx_
   dsimp only [List.set] at HS
   clear hB1_ hrest_ hbx_
   refine ⟨_, rfl, ?_⟩
   refine b_ bin_add64 ?_
   refine v_ (fa_ underlying54) ?_
   refine WL.store HS 0 rfl rfl rfl rfl rfl rfl rfl (by kernel_rfl) (ble_ rfl) (cs' := #[vi i63, vi (wrap64 (256 + t170.1))]) (by kernel_rfl) (fun w173 HS => ?_)
   dsimp only [List.set] at HS
   refine WL.done ?_
   obtain rfl := os H
   exact wv_ iq X74 ⟨t170.2.f1, t170.2.f2, (wrap64 (256 + t170.1)), rfl, Ho70, HS⟩ ))))
 exact by (
 clear hK56
 refine sr_ fun _ hK175 => ?_
 refine mv_ ?_
 refine b_ bin_gtr ?_
 refine mv_ ?_
 rcases eti_ H with ⟨c176, H⟩ | ⟨c176, H⟩
 · refine off_ (c' := false) (dF c176) ?_
   refine off_ (c' := false) (dF c176) ?_
   refine v_ (Run.pickF rfl rfl (dF c176) rfl) ?_
   refine dn_ hK175 (wn_ rfl ?_)
   clear hK175
   refine WC.skip ?_
   obtain rfl := os H
   exact wv_ iq X64 ⟨t50.2.f1, t50.2.f2, (wrap64 (97 + t47.1)), rfl, Ho60, HS⟩
 refine on_ (dT c176) (mv_ ?_)
 refine on_ (dT c176) ?_
 exact by (
 obtain ⟨t177, ha178, H⟩ := bind_some H
 refine c_ func72 (spec_l01Once.runs k26 b0 (⟨x0.f0, t50.2.f1, t50.2.f2⟩ : S83) A0_0 c0_0 2 _ t177.1 t177.2 _ _ HS.b (HS.nodupM 2 rfl) (HS.boundM 2 rfl) (HS.footOM 2 rfl 1 rfl) hc0_0 (HS.mu 2 rfl) ha178) ?_
 clear ha178
 rintro _ w179 ⟨rfl, hbx_, hrest_, hB1_⟩
 replace HS := HS.calledM 2 rfl hB1_ hrest_ hbx_
 dsimp only [List.set] at HS
 clear hB1_ hrest_ hbx_
 refine ⟨_, rfl, ?_⟩
 refine v_ (Run.pickT rfl rfl (dT c176) rfl) ?_
 refine dn_ hK175 ?_
 clear hK175
 rcases eti_ H with ⟨c180, H⟩ | ⟨c180, H⟩
 · refine wn_ (bF c180) (WC.skip ?_)
   obtain rfl := os H
   exact wv_ iq X64 ⟨t177.2.f1, t177.2.f2, (wrap64 (97 + t47.1)), rfl, Ho60, HS⟩
 refine wy_ c180 ?_
 exact by (
 refine rg_ (mv_ ?_)
 refine mv_ ?_
 obtain ⟨t181, ha182, H⟩ := bind_some H
 refine c_ func14 (sB.runs k26 b0 (⟨x0.f0, t177.2.f1, t177.2.f2⟩ : S83) A0_0 c0_0 i14 _ t181.1 t181.2 _ _ HS.b (HS.nodupM 2 rfl) (HS.boundM 2 rfl) (HS.footOM 2 rfl 1 rfl) hc0_0 (HS.mu 2 rfl) ha182) ?_
 clear ha182
 rintro _ w183 ⟨rfl, hbx_, hrest_, hB1_⟩
 replace HS := HS.calledM 2 rfl hB1_ hrest_ hbx_
 dsimp only [List.set] at HS
 clear hB1_ hrest_ hbx_
 refine ⟨_, rfl, ?_⟩
 refine b_ bin_add64 ?_
 refine v_ (fa_ underlying54) ?_
 refine WL.store HS 0 rfl rfl rfl rfl rfl rfl rfl (by kernel_rfl) (ble_ rfl) (cs' := #[vi (wrap64 (256 + t181.1)), vi (wrap64 (97 + t50.1))]) (by kernel_rfl) (fun w184 HS => ?_)
 dsimp only [List.set] at HS
 refine WL.done ?_
 obtain rfl := os H
 exact wv_ iq X64 ⟨t181.2.f1, t181.2.f2, (wrap64 (256 + t181.1)), rfl, Ho60, HS⟩ ))))))))
def sV.g (k : Nat) (x0 : S33) : Option Int := (some (wrap64 (256 + (x0.f3.length : Int))))
theorem sV.runs (k : Nat) (cs0 : List Value) (x0 : S33) (r : Int) (w : World) (hk0 : k33.K w x0 cs0) (H : sV.g k x0 = some r) :
   Calls prog 15 #[.agg cs0.toArray] w fun e w' => e = .returned (vi r) ∧ Below w.heap.size w w' := by
 have el0 : cs0.length = 14 := k33.K_len hk0
 unfold sV.g at H
 have HS : St (fun _ => True) w w [] [(kF k33 x0 cs0)] [] := St.start (foot_cons (foot_K h33 hk0) foot_nil)
 refine cw_ (n := 7) func15 fun R_ hR_ => ?_
 refine sr_ fun _ hK1 => ?_
 refine bo_ HS (fun b2 w3 hb2 HS => ?_)
 refine ad_ hK1 ?_
 refine sr_ fun _ hK4 => ?_
 refine v_ (fa_ underlying33) ?_
 obtain ⟨A5, c6, hc7, le8, HS⟩ := HS.sO 0 rfl at33_3
 refine v_ (lb_ (HS.mu 0 rfl) underlying24 hc7) ?_
 refine ln_ underlying24 ?_
 refine b_ bin_add64 ?_
 refine ad_ hK4 ?_
 obtain rfl := os H
 exact rt1 Try.f15 rfl rfl hR_ ⟨rfl, HS.b⟩
def sTF.b1 (a1 : Int) (i24 : Int) (rec_ : (List Int) → (List Int) → Int → Option ((List Int) × (List Int) × Int)) (k104 : Nat) (xs65 : List Int) (xs68 : List Int) (i71 : Int) : Option ((List Int) × (List Int) × Int) := (if i71 < a1 then (if (xs65.length) < 4294967296 then (if (xs68.length) < 4294967296 then (rec_ (xs65 ++ [wrap64 (128 - (wrap64 (2 * (Int.tmod (wrap64 (i24 * (wrap64 (i71 + 1)))) 64))))]) (xs68 ++ [Int.tmod (wrap64 ((wrap64 (8 * i24)) + (wrap64 (16 * i71)))) 128]) (wrap64 (i71 + 1))) else none) else none) else (some (xs65, xs68, i71)))
def sTF.l1 (a1 : Int) (i24 : Int) : Nat → (List Int) → (List Int) → Int → Option ((List Int) × (List Int) × Int)
 | 0, _, _, _ => none
 | k + 1, xs65, xs68, i71 => sTF.b1 a1 i24 (sTF.l1 a1 i24 k) k xs65 xs68 i71
def sTF.b0 (a0 : Int) (a1 : Int) (rec_ : Int → (List (List Int)) → (List (List Int)) → Option (Int × (List (List Int)) × (List (List Int)))) (k48 : Nat) (i24 : Int) (xs25 : List (List Int)) (xs28 : List (List Int)) : Option (Int × (List (List Int)) × (List (List Int))) := (if i24 < a0 then ((sTF.l1 a1 i24 k48 ([] : List Int) ([] : List Int) 0).bind (fun oc102 => (if (xs25.length) < 4294967296 then (if (xs28.length) < 4294967296 then (rec_ (wrap64 (i24 + 1)) (xs25 ++ [oc102.1]) (xs28 ++ [oc102.2.1])) else none) else none))) else (some (i24, xs25, xs28)))
def sTF.l0 (a0 : Int) (a1 : Int) : Nat → Int → (List (List Int)) → (List (List Int)) → Option (Int × (List (List Int)) × (List (List Int)))
 | 0, _, _, _ => none
 | k + 1, i24, xs25, xs28 => sTF.b0 a0 a1 (sTF.l0 a0 a1 k) k i24 xs25 xs28
def sTF.g (k : Nat) (a0 : Int) (a1 : Int) : Option (S31 × Bool) := ((sI.f a0 4 24).bind fun t10 => (if t10 = true then ((sI.f a1 1 4).bind fun t14 => (if t14 = true then ((sTF.l0 a0 a1 k 0 ([] : List (List Int)) ([] : List (List Int))).bind (fun oc46 => ((sTO.g k (⟨oc46.2.1, oc46.2.2⟩ : S31) a0 a1).bind fun t40 => (some ((⟨oc46.2.1, oc46.2.2⟩ : S31), t40))))) else (some ((⟨[], []⟩ : S31), false)))) else (some ((⟨[], []⟩ : S31), false))))
theorem sTF.runs (k : Nat) (a0 : Int) (a1 : Int) (r1 : S31) (r2 : Bool) (w : World) (H : sTF.g k a0 a1 = some (r1, r2)) :
   Calls prog 43 #[vi a0, vi a1] w fun e w' => ∃ (A0_0_ : Option Addr) (c0_0_ : Nat) (A0_1_ : Option Addr) (c0_1_ : Nat), e = .returned (.tuple #[.agg #[.slice A0_0_ r1.f0.length c0_0_, .slice A0_1_ r1.f1.length c0_1_], .bool r2]) ∧ r1.f0.length ≤ c0_0_ ∧ Foot (cF kS3 A0_0_ r1.f0) w' (fun k_ => w.heap.size ≤ k_) ∧ r1.f1.length ≤ c0_1_ ∧ Foot (cF kS3 A0_1_ r1.f1) w' (fun k_ => w.heap.size ≤ k_) ∧ Below w.heap.size w w' := by
 unfold sTF.g at H
 have HS : St (fun _ => True) w w [] [] [] := St.start foot_nil
 refine cw_ (n := 69) func43 fun R_ hR_ => ?_
 refine sr_ fun _ hK1 => ?_
 refine WL.alloc HS (v := .agg #[sn, sn]) (cs := #[sn, sn]) rfl rfl (by decide) rfl (by kernel_rfl) rfl (fun b2 w3 hb2 HS => ?_)
 refine ad_ hK1 ?_
 clear hK1
 refine sr_ fun _ hK4 => ?_
 refine v_ (Run.build (cells := #[sn, sn]) rfl [] trivial (by kernel_rfl)) ?_
 refine WL.alloc HS (v := .agg #[sn, sn]) (cs := #[sn, sn]) rfl rfl (by decide) rfl (by kernel_rfl) rfl (fun b5 w6 hb5 HS => ?_)
 refine WL.storeW HS 0 rfl rfl rfl rfl rfl rfl (oneL rfl) (by kernel_rfl) rfl (fun w7 HS => ?_)
 dsimp only [List.set] at HS
 refine dn_ hK4 (WC.seq fun _ hK8 => ?_)
 clear hK4
 refine sr_ fun _ hK9 => ?_
 refine mv_ ?_
 exact by (
 obtain ⟨t10, ha11, H⟩ := bind_some H
 refine cs0_ HS func33 (sI.calls a0 4 24 t10 _ ha11) (fun w12 HS => ?_)
 clear ha11
 refine nt_ ?_
 refine mv_ ?_
 rcases eti_ H with ⟨c13, H⟩ | ⟨c13, H⟩
 · refine off_ (c' := true) (nB (bF c13)) ?_
   refine WL.know 15 (nB (bF c13)) ?_
   refine fast_ ?_
   refine via_ hK9 (wy_ rfl ?_)
   clear hK9
   refine sr_ fun _ hK122 => ?_
   refine v_ (ls_ (HS.mu 0 rfl) underlying31 part_all) ?_
   refine WL.storeW HS 1 rfl rfl rfl rfl rfl rfl (oneL rfl) (by kernel_rfl) rfl (fun w123 HS => ?_)
   dsimp only [List.set] at HS
   refine ad_ hK122 ?_
   exact by (
   clear hK122
   obtain ⟨rfl, rfl⟩ := Prod.mk.inj (os H)
   exact rt2 Try.f43 rfl ⟨_, rfl, resv_box (HS.mu 1 rfl) underlying31 rfl (by kernel_rfl)⟩ rfl hR_ ⟨_, _, _, _, rfl, (Nat.le_refl _), (fun W_ _ => Kd.C_nil _ _), (Nat.le_refl _), (fun W_ _ => Kd.C_nil _ _), HS.b⟩ )
 refine on_ (nB c13) (mv_ ?_)
 refine on_ (nB c13) ?_
 obtain ⟨t14, ha15, H⟩ := bind_some H
 refine cs0_ HS func33 (sI.calls a1 1 4 t14 _ ha15) (fun w16 HS => ?_)
 clear ha15
 refine on_ (nB c13) (nt_ ?_)
 refine v_ (Run.pickF rfl rfl (nB c13) rfl) ?_
 refine dn_ hK9 ?_
 clear hK9
 rcases eti_ H with ⟨c17, H⟩ | ⟨c17, H⟩
 · refine wy_ (nB (bF c17)) (sr_ fun _ hK120 => ?_)
   refine v_ (ls_ (HS.mu 0 rfl) underlying31 part_all) ?_
   refine WL.storeW HS 1 rfl rfl rfl rfl rfl rfl (oneL rfl) (by kernel_rfl) rfl (fun w121 HS => ?_)
   exact by (
   dsimp only [List.set] at HS
   refine ad_ hK120 ?_
   clear hK120
   obtain ⟨rfl, rfl⟩ := Prod.mk.inj (os H)
   exact rt2 Try.f43 rfl ⟨_, rfl, resv_box (HS.mu 1 rfl) underlying31 rfl (by kernel_rfl)⟩ rfl hR_ ⟨_, _, _, _, rfl, (Nat.le_refl _), (fun W_ _ => Kd.C_nil _ _), (Nat.le_refl _), (fun W_ _ => Kd.C_nil _ _), HS.b⟩ )
 refine wn_ (nB c17) (WC.skip (via_ hK8 (WC.seq fun K18 hK18 => ?_)))
 clear hK8
 refine sr_ fun _ hK19 => ?_
 refine ad_ hK19 ?_
 clear hK19
 refine WC.block ?_
 replace HS := HS.rowNil 27 1
 replace HS := HS.deriveN (p := (rF kS3 ([] : List (List Int)) [])) (fun _ _ => Reps.none _ _)
 replace HS := HS.rowNil 27 1
 replace HS := HS.deriveN (p := (rF kS3 ([] : List (List Int)) [])) (fun _ _ => Reps.none _ _)
 obtain ⟨G20, hG21, oc22, H, Ho23⟩ := open_G H
 exact by (
 let J31 := fun (i24 : Int) (xs25 : List (List Int)) v26 I27 (xs28 : List (List Int)) v29 I30 (E_ : Env) (W_ : World) => E_ = [(0, vi a0), (1, vi a1), (4, .pointer (some ⟨b2, 0, none⟩)), (6, .pointer (some ⟨b5, 0, none⟩)), (7, vi i24)] ∧ St (fun _ => True) w W_ [rowM w.heap.size 27 1 v29 xs28.length I30, rowM w.heap.size 27 1 v26 xs25.length I27, boxM b5 #[v26, v29] 31, boxM b2 #[sn, sn] 31] [] [(rF kS3 xs28 I30), (rF kS3 xs25 I27)]
 have X32 : ∀ E_ W_, (∃ i24 xs25 v26 I27 xs28 v29 I30, G20 (i24, xs25, xs28) = some (r1, r2) ∧ J31 i24 xs25 v26 I27 xs28 v29 I30 E_ W_) → ∀ a, Fits a 69 E_ → K18 a W_ := by
   rintro E_ w33 ⟨i24, xs25, v26, I27, xs28, v29, I30, H, rfl, HS⟩
   rw [hG21] at H
   (try dsimp only at H)
   refine hK18 _ _ ?_
   clear hK18
   refine WC.seq fun _ hK34 => ?_
   refine WC.drawW HS [boxM b5 #[v26, v29] 31] (fun _ HS => ⟨(HS.mu 2 rfl), trivial⟩) [] rfl rfl (fun w35 HS => ?_)
   refine dm_ 2 ?_
   refine dm_ 3 ?_
   obtain ⟨A36, c37, rfl⟩ := row_slice (HS.mu 1 rfl)
   obtain ⟨A38, c39, rfl⟩ := row_slice (HS.mu 0 rfl)
   refine dt_ 0 ⟨HS.nowO, HS.nowN, ⟨(HS.mu 2 rfl), trivial⟩⟩ (fun w_ hw_ => Run.loadS (cs := [(.slice A36 xs25.length c37), (.slice A38 xs28.length c39)]) rfl rfl underlying31 rfl (by kernel_rfl) (box_part hw_.2.2.1 part_all)) ?_
   refine dt_ 1 ⟨HS.nowO, HS.nowN, ⟨(HS.mu 2 rfl), trivial⟩⟩ (fun w_ hw_ => Run.loadS (cs := [(.slice A36 xs25.length c37), (.slice A38 xs28.length c39)]) rfl rfl underlying31 rfl (by kernel_rfl) (box_part hw_.2.2.1 part_all)) ?_
   obtain ⟨t40, ha41, H⟩ := bind_some H
   exact by (
   refine dc_ 4 (w_none rfl) func38 (sTO.runs k (⟨xs25, xs28⟩ : S31) A36 c37 A38 c39 a0 a1 t40 _ (row_C rfl (HS.mu 1 rfl) (HS.getN 1 rfl)) (row_le (HS.mu 1 rfl)) (row_C rfl (HS.mu 0 rfl) (HS.getN 0 rfl)) (row_le (HS.mu 0 rfl)) ha41) ?_
   clear ha41
   rintro _ w42 ⟨rfl, hb⟩
   replace HS := HS.below hb
   refine ⟨⟨HS.nowO, HS.nowN, ⟨(HS.mu 2 rfl), trivial⟩⟩, _, rfl, ?_⟩
   clear hb
   refine WD.storeS 5 HS 3 rfl rfl rfl rfl (oneL rfl) (by kernel_rfl) (ble_ rfl) (cs' := #[(.slice A36 xs25.length c37), (.slice A38 xs28.length c39)]) (by kernel_rfl) (fun w43 HS => ?_)
   dsimp only [List.set] at HS
   refine ⟨⟨HS.nowO, HS.nowN, ⟨(HS.mu 2 rfl), trivial⟩⟩, ?_⟩
   refine dp_ 6 (fun _ => Run.assign rfl rfl) ?_
   refine dd_ (via_ hK34 (WC.ret ?_))
   clear hK34
   have le44 := row_le (HS.mu 1 rfl)
   replace HS := HS.freezeN 1 (p := (cF kS3 A36 (xs25))) rfl (fun W_ hm_ h_ => row_C (by rfl) hm_ h_.2.1)
   dsimp only [List.eraseIdx] at HS
   have le45 := row_le (HS.mu 0 rfl)
   exact by (
   replace HS := HS.freezeN 0 (p := (cF kS3 A38 (xs28))) rfl (fun W_ hm_ h_ => row_C (by rfl) hm_ h_.2.1)
   dsimp only [List.eraseIdx] at HS
   obtain ⟨rfl, rfl⟩ := Prod.mk.inj (os H)
   exact fin2 Try.f43 rfl ⟨_, rfl, resv_box (HS.mu 1 rfl) underlying31 rfl (by kernel_rfl)⟩ rfl hR_ ⟨_, _, _, _, rfl, le44, (foot_fresh (HS.footN 1 rfl)), le45, (foot_fresh (HS.footN 0 rfl)), HS.b⟩ ))
 clear hK18
 refine WC.loop (fun k_ E_ W_ => ∃ i24 xs25 v26 I27 xs28 v29 I30, (∃ o_, sTF.l0 a0 a1 k_ i24 xs25 xs28 = some o_ ∧ G20 o_ = some (r1, r2)) ∧ J31 i24 xs25 v26 I27 xs28 v29 I30 E_ W_) k ⟨0, ([] : List (List Int)), (sn), ([]), ([] : List (List Int)), (sn), ([]), ⟨_, H, Ho23⟩, rfl, HS⟩ (sb rfl) ?_
 rintro k_ E_ w47 ⟨i24, xs25, v26, I27, xs28, v29, I30, ⟨oc22, H, Ho23⟩, rfl, HS⟩
 rcases k_ with _ | k48
 · exact no_ H
 replace H : sTF.b0 a0 a1 (sTF.l0 a0 a1 k48) k48 i24 xs25 xs28 = some oc22 := H
 unfold sTF.b0 at H
 refine WC.seq fun _ hK49 => ?_
 refine sr_ fun _ hK50 => ?_
 refine mv_ ?_
 refine mv_ ?_
 refine b_ bin_lss ?_
 exact by (
 refine dn_ hK50 ?_
 clear hK50
 rcases eti_ H with ⟨c51, H⟩ | ⟨c51, H⟩
 · refine wn_ (dF c51) (WC.exit ?_)
   obtain rfl := os H
   exact wv_ iq X32 ⟨i24, xs25, v26, I27, xs28, v29, I30, Ho23, rfl, HS⟩
 refine wy_ (dT c51) (WC.skip (via_ hK49 (WC.seq fun _ hK52 => ?_)))
 clear hK49
 refine WC.block (sr_ fun _ hK53 => ?_)
 refine WL.lit0 HS rfl rfl (by decide) rfl underlying27 (sz := 1) (by kernel_rfl) (fun v54 w55 HS => ?_)
 replace HS := HS.deriveN (p := (rF kI ([] : List Int) [])) (fun _ _ => Reps.none _ _)
 refine ad_ hK53 ?_
 clear hK53
 refine sr_ fun _ hK56 => ?_
 refine WL.lit0 HS rfl rfl (by decide) rfl underlying27 (sz := 1) (by kernel_rfl) (fun v57 w58 HS => ?_)
 replace HS := HS.deriveN (p := (rF kI ([] : List Int) [])) (fun _ _ => Reps.none _ _)
 exact by (
 refine ad_ hK56 ?_
 clear hK56
 refine WC.seq fun K59 hK59 => ?_
 refine sr_ fun _ hK60 => ?_
 refine ad_ hK60 ?_
 clear hK60
 refine WC.block ?_
 obtain ⟨G61, hG62, oc63, H, Ho64⟩ := open_G H
 let J72 := fun (xs65 : List Int) v66 I67 (xs68 : List Int) v69 I70 (i71 : Int) (E_ : Env) (W_ : World) => E_ = [(0, vi a0), (1, vi a1), (4, .pointer (some ⟨b2, 0, none⟩)), (6, .pointer (some ⟨b5, 0, none⟩)), (7, vi i24), (8, v66), (9, v69), (10, vi i71)] ∧ St (fun _ => True) w W_ [rowM w.heap.size 3 1 v69 xs68.length I70, rowM w.heap.size 3 1 v66 xs65.length I67, rowM w.heap.size 27 1 v29 xs28.length I30, rowM w.heap.size 27 1 v26 xs25.length I27, boxM b5 #[v26, v29] 31, boxM b2 #[sn, sn] 31] [] [(rF kI xs68 I70), (rF kI xs65 I67), (rF kS3 xs28 I30), (rF kS3 xs25 I27)]
 have X73 : ∀ E_ W_, (∃ xs65 v66 I67 xs68 v69 I70 i71, G61 (xs65, xs68, i71) = some oc22 ∧ J72 xs65 v66 I67 xs68 v69 I70 i71 E_ W_) → ∀ a, Fits a 69 E_ → K59 a W_ := by
   rintro E_ w74 ⟨xs65, v66, I67, xs68, v69, I70, i71, H, rfl, HS⟩
   rw [hG62] at H
   (try dsimp only at H)
   refine hK59 _ _ ?_
   clear hK59
   refine sr_ fun _ hK75 => ?_
   exact by (
   refine v_ (fa_ underlying31) ?_
   obtain ⟨A76, c77, rfl⟩ := row_slice (HS.mu 3 rfl)
   refine v_ (lb_ (HS.mu 4 rfl) underlying25 rfl) ?_
   refine mv_ ?_
   obtain ⟨A78, c79, rfl⟩ := row_slice (HS.mu 1 rfl)
   have le80 := row_le (HS.mu 1 rfl)
   replace HS := HS.freezeN 1 (p := (cF kI A78 (xs65))) rfl (fun W_ hm_ h_ => row_C (by rfl) hm_ h_.2.1)
   dsimp only [List.eraseIdx] at HS
   refine WL.val rfl rfl (by decide) (Run.lit1 (z := (sn)) (vs := [.slice A78 xs65.length c79]) rfl rfl rfl underlying25 (by kernel_rfl) (ble_ rfl) (ble_ rfl)) ?_
   have HS1 := HS.below (below_alloc (Below.refl _ _) (.cells #[.slice A78 xs65.length c79] 27))
   obtain ⟨q81, H⟩ := if_some H
   refine WL.append HS1 2 rfl rfl rfl (by decide) rfl (sn) 24 underlying25 (by kernel_rfl) rfl (by decide) (by decide) rfl rfl [.slice A78 xs65.length c79] rfl (lit_news _ _ _) (oneL rfl) (by omega) ((xs25 ++ [xs65]).length) (by simp) (fun v82 w83 I84 hI85 HS => ?_)
   dsimp only [List.set] at HS
   replace HS := HS.deriveN (p := (rF kS3 (xs25 ++ [xs65]) I84)) (fun W_ hN_ => reps_snoc hI85 hN_.2.2.2.2.1 (K_slice le80 hN_.1))
   clear HS1
   refine v_ (fa_ underlying31) ?_
   exact by (
   obtain ⟨A87, c88, rfl⟩ := row_slice (HS.mu 2 rfl)
   refine WL.store HS 3 rfl rfl rfl rfl rfl rfl rfl (by kernel_rfl) (ble_ rfl) (cs' := #[(.slice A87 ((xs25 ++ [xs65]).length) c88), v29]) (by kernel_rfl) (fun w86 HS => ?_)
   dsimp only [List.set] at HS
   refine dn_ hK75 (rg_ (v_ (fa_ underlying31) ?_))
   clear hK75
   obtain ⟨A89, c90, rfl⟩ := row_slice (HS.mu 1 rfl)
   refine v_ (lb_ (HS.mu 3 rfl) underlying25 rfl) ?_
   refine mv_ ?_
   obtain ⟨A91, c92, rfl⟩ := row_slice (HS.mu 0 rfl)
   have le93 := row_le (HS.mu 0 rfl)
   replace HS := HS.freezeN 0 (p := (cF kI A91 (xs68))) rfl (fun W_ hm_ h_ => row_C (by rfl) hm_ h_.2.2.1)
   dsimp only [List.eraseIdx] at HS
   refine WL.val rfl rfl (by decide) (Run.lit1 (z := (sn)) (vs := [.slice A91 xs68.length c92]) rfl rfl rfl underlying25 (by kernel_rfl) (ble_ rfl) (ble_ rfl)) ?_
   have HS1 := HS.below (below_alloc (Below.refl _ _) (.cells #[.slice A91 xs68.length c92] 27))
   obtain ⟨q94, H⟩ := if_some H
   refine WL.append HS1 0 rfl rfl rfl (by decide) rfl (sn) 24 underlying25 (by kernel_rfl) rfl (by decide) (by decide) rfl rfl [.slice A91 xs68.length c92] rfl (lit_news _ _ _) (oneL rfl) (by omega) ((xs28 ++ [xs68]).length) (by simp) (fun v95 w96 I97 hI98 HS => ?_)
   exact by (
   dsimp only [List.set] at HS
   replace HS := HS.deriveN (p := (rF kS3 (xs28 ++ [xs68]) I97)) (fun W_ hN_ => reps_snoc hI98 hN_.2.2.2.2.2.1 (K_slice le93 hN_.1))
   clear HS1
   refine v_ (fa_ underlying31) ?_
   obtain ⟨A100, c101, rfl⟩ := row_slice (HS.mu 0 rfl)
   refine WL.store HS 2 rfl rfl rfl rfl rfl rfl rfl (by kernel_rfl) (ble_ rfl) (cs' := #[(.slice A87 ((xs25 ++ [xs65]).length) c88), (.slice A100 ((xs28 ++ [xs68]).length) c101)]) (by kernel_rfl) (fun w99 HS => ?_)
   dsimp only [List.set] at HS
   refine dn_ hK52 (rg_ (mv_ ?_))
   clear hK52
   refine b_ bin_add64 ?_
   refine as_ ?_
   refine WL.done ?_
   exact wr_ k48 iq ⟨(wrap64 (i24 + 1)), (xs25 ++ [xs65]), (.slice A87 ((xs25 ++ [xs65]).length) c88), I84, (xs28 ++ [xs68]), (.slice A100 ((xs28 ++ [xs68]).length) c101), I97, ⟨_, H, Ho23⟩, rfl, (St.pk HS [] [0, 2] rfl rfl)⟩ )))
 clear hK59
 refine WC.loop (fun k_ E_ W_ => ∃ xs65 v66 I67 xs68 v69 I70 i71, (∃ o_, sTF.l1 a1 i24 k_ xs65 xs68 i71 = some o_ ∧ G61 o_ = some oc22) ∧ J72 xs65 v66 I67 xs68 v69 I70 i71 E_ W_) k48 ⟨([] : List Int), v54, ([]), ([] : List Int), v57, ([]), 0, ⟨_, H, Ho64⟩, rfl, HS⟩ (sb rfl) ?_
 rintro k_ E_ w103 ⟨xs65, v66, I67, xs68, v69, I70, i71, ⟨oc63, H, Ho64⟩, rfl, HS⟩
 exact by (
 rcases k_ with _ | k104
 · exact no_ H
 replace H : sTF.b1 a1 i24 (sTF.l1 a1 i24 k104) k104 xs65 xs68 i71 = some oc63 := H
 unfold sTF.b1 at H
 refine WC.seq fun _ hK105 => ?_
 refine sr_ fun _ hK106 => ?_
 refine mv_ ?_
 refine mv_ ?_
 refine b_ bin_lss ?_
 refine dn_ hK106 ?_
 clear hK106
 rcases eti_ H with ⟨c107, H⟩ | ⟨c107, H⟩
 · refine wn_ (dF c107) (WC.exit ?_)
   obtain rfl := os H
   exact wv_ iq X73 ⟨xs65, v66, I67, xs68, v69, I70, i71, Ho64, rfl, HS⟩
 refine wy_ (dT c107) (WC.skip (via_ hK105 (WC.seq fun _ hK108 => ?_)))
 exact by (
 clear hK105
 refine WC.block (sr_ fun _ hK109 => ?_)
 refine mv_ ?_
 refine mv_ ?_
 refine mv_ ?_
 refine b_ bin_add64 ?_
 refine b_ bin_mul64 ?_
 refine v_ (Run.bin rfl rfl rfl (bin_rem (show (64 : Int) ≠ 0 by decide))) ?_
 refine b_ bin_mul64 ?_
 refine b_ bin_sub64 ?_
 refine WL.val rfl rfl (by decide) (Run.lit1 (z := (vi 0)) (vs := [vi (wrap64 (128 - (wrap64 (2 * (Int.tmod (wrap64 (i24 * (wrap64 (i71 + 1)))) 64)))))]) rfl rfl rfl underlying27 (by kernel_rfl) (ble_ rfl) (ble_ rfl)) ?_
 have HS1 := HS.below (below_alloc (Below.refl _ _) (.cells #[vi (wrap64 (128 - (wrap64 (2 * (Int.tmod (wrap64 (i24 * (wrap64 (i71 + 1)))) 64)))))] 3))
 obtain ⟨q110, H⟩ := if_some H
 refine WL.append HS1 1 rfl rfl rfl (by decide) rfl (vi 0) 8 underlying27 (by kernel_rfl) rfl (by decide) (by decide) rfl rfl [vi (wrap64 (128 - (wrap64 (2 * (Int.tmod (wrap64 (i24 * (wrap64 (i71 + 1)))) 64)))))] rfl (lit_news _ _ _) (oneL rfl) (by omega) ((xs65 ++ [wrap64 (128 - (wrap64 (2 * (Int.tmod (wrap64 (i24 * (wrap64 (i71 + 1)))) 64))))]).length) (by simp) (fun v111 w112 I113 hI114 HS => ?_)
 dsimp only [List.set] at HS
 replace HS := HS.deriveN (p := (rF kI (xs65 ++ [wrap64 (128 - (wrap64 (2 * (Int.tmod (wrap64 (i24 * (wrap64 (i71 + 1)))) 64))))]) I113)) (fun W_ hN_ => reps_snoc hI114 hN_.2.1 (K_int _))
 exact by (
 clear HS1
 refine ad_ hK109 ?_
 clear hK109
 refine rg_ (mv_ ?_)
 refine mv_ ?_
 refine b_ bin_mul64 ?_
 refine mv_ ?_
 refine b_ bin_mul64 ?_
 refine b_ bin_add64 ?_
 refine v_ (Run.bin rfl rfl rfl (bin_rem (show (128 : Int) ≠ 0 by decide))) ?_
 refine WL.val rfl rfl (by decide) (Run.lit1 (z := (vi 0)) (vs := [vi (Int.tmod (wrap64 ((wrap64 (8 * i24)) + (wrap64 (16 * i71)))) 128)]) rfl rfl rfl underlying27 (by kernel_rfl) (ble_ rfl) (ble_ rfl)) ?_
 have HS1 := HS.below (below_alloc (Below.refl _ _) (.cells #[vi (Int.tmod (wrap64 ((wrap64 (8 * i24)) + (wrap64 (16 * i71)))) 128)] 3))
 obtain ⟨q115, H⟩ := if_some H
 refine WL.append HS1 0 rfl rfl rfl (by decide) rfl (vi 0) 8 underlying27 (by kernel_rfl) rfl (by decide) (by decide) rfl rfl [vi (Int.tmod (wrap64 ((wrap64 (8 * i24)) + (wrap64 (16 * i71)))) 128)] rfl (lit_news _ _ _) (oneL rfl) (by omega) ((xs68 ++ [Int.tmod (wrap64 ((wrap64 (8 * i24)) + (wrap64 (16 * i71)))) 128]).length) (by simp) (fun v116 w117 I118 hI119 HS => ?_)
 dsimp only [List.set] at HS
 replace HS := HS.deriveN (p := (rF kI (xs68 ++ [Int.tmod (wrap64 ((wrap64 (8 * i24)) + (wrap64 (16 * i71)))) 128]) I118)) (fun W_ hN_ => reps_snoc hI119 hN_.2.1 (K_int _))
 exact by (
 clear HS1
 refine ad_ hK108 ?_
 clear hK108
 refine rg_ (mv_ ?_)
 refine b_ bin_add64 ?_
 refine as_ ?_
 refine WL.done ?_
 exact wr_ k104 iq ⟨(xs65 ++ [wrap64 (128 - (wrap64 (2 * (Int.tmod (wrap64 (i24 * (wrap64 (i71 + 1)))) 64))))]), v111, I113, (xs68 ++ [Int.tmod (wrap64 ((wrap64 (8 * i24)) + (wrap64 (16 * i71)))) 128]), v116, I118, (wrap64 (i71 + 1)), ⟨_, H, Ho64⟩, rfl, (St.pk HS [] [0, 1, 4, 5] rfl rfl)⟩ ))))))))
end Go.Proofs.Ytbdbadkinjbpcaa.PFnFiles
