/- Functions that the statement reaches, as Lean functions, and the proof that a call of each comes to just its answer; written by this claim's own program. No conditions. -/
import Derived.Test.YtlpginalgdbopaaGFnBlocks1
namespace Go.Proofs.Ytlpginalgdbopaa.PFnBlocks
open Try
open Go.RowKit Go.Proofs.YtlpginalgdbopaaW.PrintWords Go.Proofs.YtlpginalgdbopaaW.PrintLast Go.Proofs.YtlpginalgdbopaaW.PrintMore Go.Proofs.Ytlpginalgdbopaa.XW Go.Proofs.Ytlpginalgdbopaa.XOp Go.Proofs.Ytlpginalgdbopaa.XSt Go.Proofs.Ytlpginalgdbopaa.XDraw
set_option linter.unusedVariables false
set_option linter.unusedSimpArgs false
set_option maxHeartbeats 4000000
set_option maxRecDepth 20000
def spec_l15Grown.b0 (x0 : S146) (a1 : Int) (rec_ : (List S67) → Int → Int → Int → (List Int) → (List (List S62)) → Option ((List S67) × Int × Int × Int × (List Int) × (List (List S62)))) (k64 : Nat) (xs40 : List S67) (i43 : Int) (i44 : Int) (i45 : Int) (xs46 : List Int) (xs50 : List (List S62)) : Option ((List S67) × Int × Int × Int × (List Int) × (List (List S62))) := (if i43 < a1 then ((((spec_l01Below.g k64 (⟨x0.f0, i44, i45⟩ : S146) (xs40.length : Int)).bind fun t92 => ((spec_l01Below.g k64 (⟨x0.f0, t92.2.f1, t92.2.f2⟩ : S146) 7).bind fun t96 => (if t96.1 = 0 then (if (xs40.length : Int) < 4 then (if 0 ≤ t92.1 ∧ t92.1 < ((xs40.length : Nat) : Int) then ((spec_ForkTable.g k64 (⟨xs46, xs50⟩ : S58) (xs40.getD t92.1.toNat o67)).bind fun t117 => (if t117.2.2 = true then (if (xs40.length) < 4294967296 then (some ((xs40 ++ [(⟨t117.2.1.f0, t117.2.1.f1⟩ : S67)]), t96.2.f1, t96.2.f2, t117.1.f0, t117.1.f1)) else none) else (some (xs40, t96.2.f1, t96.2.f2, xs46, xs50)))) else none) else (some (xs40, t96.2.f1, t96.2.f2, xs46, xs50))) else (if t96.1 = 1 then ((spec_l01Once.g k64 (⟨x0.f0, t96.2.f1, t96.2.f2⟩ : S146) 3).bind fun t237 => (if t237.1 = true then (if 0 ≤ t92.1 ∧ t92.1 < ((xs40.length : Nat) : Int) then ((spec_DropTable.g k64 (⟨xs46, xs50⟩ : S58) (xs40.getD t92.1.toNat o67)).bind fun t254 => (some ((xs40.set t92.1.toNat (⟨[], 0⟩ : S67)), t237.2.f1, t237.2.f2, t254.1.f0, t254.1.f1))) else none) else (some (xs40, t237.2.f1, t237.2.f2, xs46, xs50)))) else (if 0 ≤ t92.1 ∧ t92.1 < ((xs40.length : Nat) : Int) then ((spec_l15Small.g k64 (⟨x0.f0, t96.2.f1, t96.2.f2⟩ : S146)).bind fun t291 => ((spec_AddCell.g k64 (⟨xs46, xs50⟩ : S58) (xs40.getD t92.1.toNat o67) t291.1).bind fun t302 => (if t302.2.2 = true then (some ((xs40.set t92.1.toNat (⟨t302.2.1.f0, t302.2.1.f1⟩ : S67)), t291.2.f1, t291.2.f2, t302.1.f0, t302.1.f1)) else (some (xs40, t291.2.f1, t291.2.f2, xs46, xs50))))) else none))))) : Option ((List S67) × Int × Int × (List Int) × (List (List S62)))).bind (fun oc88 => (rec_ oc88.1 (wrap64 (i43 + 1)) oc88.2.1 oc88.2.2.1 oc88.2.2.2.1 oc88.2.2.2.2))) else (some (xs40, i43, i44, i45, xs46, xs50)))
def spec_l15Grown.l0 (x0 : S146) (a1 : Int) : Nat → (List S67) → Int → Int → Int → (List Int) → (List (List S62)) → Option ((List S67) × Int × Int × Int × (List Int) × (List (List S62)))
 | 0, _, _, _, _, _, _ => none
 | k + 1, xs40, i43, i44, i45, xs46, xs50 => spec_l15Grown.b0 x0 a1 (spec_l15Grown.l0 x0 a1 k) k xs40 i43 i44 i45 xs46 xs50
def spec_l15Grown.g (k : Nat) (x0 : S146) (a1 : Int) : Option (S58 × (List S67) × S146) := ((spec_l01Below.g k (⟨x0.f0, x0.f1, x0.f2⟩ : S146) 8).bind fun t5 => (if 0 ≤ (wrap64 (3 + t5.1)) ∧ (wrap64 (3 + t5.1)) < 4294967296 then (if 0 ≤ ((List.replicate (wrap64 (3 + t5.1)).toNat (0 : Int)).length : Int) ∧ ((List.replicate (wrap64 (3 + t5.1)).toNat (0 : Int)).length : Int) < 4294967296 then ((spec_l15Grown.l0 x0 a1 k ([(⟨[], 0⟩ : S67)]) 0 t5.2.f1 t5.2.f2 (List.replicate (wrap64 (3 + t5.1)).toNat (0 : Int)) (List.replicate ((List.replicate (wrap64 (3 + t5.1)).toNat (0 : Int)).length : Int).toNat ([] : List S62))).bind (fun oc62 => (some ((⟨oc62.2.2.2.2.1, oc62.2.2.2.2.2⟩ : S58), oc62.1, (⟨x0.f0, oc62.2.2.1, oc62.2.2.2.1⟩ : S146))))) else none) else none))
theorem spec_l15Grown.runs (k : Nat) (b0 : Nat) (x0 : S146) (A0_0 : Option Addr) (c0_0 : Nat) (a1 : Int) (bs_ : List Nat) (r1 : S58) (r2 : List S67) (y_ : S146) (w0 w : World) (hB_ : Below w0.heap.size w0 w) (hn_ : (b0 :: bs_).Nodup) (hl_ : ∀ k, k ∈ b0 :: bs_ → w0.heap.size ≤ k ∧ k < w.heap.size) (hr0_0 : Foot (cF kU A0_0 x0.f0) w (fun k_ => k_ ∉ b0 :: bs_)) (hc0_0 : x0.f0.length ≤ c0_0) (hb0 : w.heap[b0]? = some (.cells #[.slice A0_0 x0.f0.length c0_0, vi x0.f1, vi x0.f2] 146 (0, 0))) (H : spec_l15Grown.g k x0 a1 = some (r1, r2, y_)) :
   Calls prog 102 #[.pointer (some ⟨b0, 0, none⟩), vi a1] w fun e w' => ∃ (A0_0_ : Option Addr) (c0_0_ : Nat) (A0_1_ : Option Addr) (c0_1_ : Nat) (A1_ : Option Addr) (c1_ : Nat), e = .returned (.tuple #[.agg #[.slice A0_0_ r1.f0.length c0_0_, .slice A0_1_ r1.f1.length c0_1_], .slice A1_ r2.length c1_]) ∧ r1.f0.length ≤ c0_0_ ∧ Foot (cF kI A0_0_ r1.f0) w' (fun k_ => w0.heap.size ≤ k_ ∧ k_ ∉ b0 :: bs_) ∧ r1.f1.length ≤ c0_1_ ∧ Foot (cF kS62 A0_1_ r1.f1) w' (fun k_ => w0.heap.size ≤ k_ ∧ k_ ∉ b0 :: bs_) ∧ r2.length ≤ c1_ ∧ Foot (cF k67 A1_ r2) w' (fun k_ => w0.heap.size ≤ k_ ∧ k_ ∉ b0 :: bs_) ∧ w'.heap[b0]? = some (.cells #[.slice A0_0 x0.f0.length c0_0, vi y_.f1, vi y_.f2] 146 (0, 0)) ∧ RestOf w w' b0 ∧ Below w0.heap.size w0 w' := by
 unfold spec_l15Grown.g at H
 have HS : St (fun _ => True) w0 w [boxM b0 #[.slice A0_0 x0.f0.length c0_0, vi x0.f1, vi x0.f2] 146, keepM w bs_] [(frameF w b0 bs_), (cF kU A0_0 x0.f0)] [] := St.startM hB_ hn_ hl_ hb0 (foot_cons hr0_0 foot_nil)
 refine cw_ (n := 97) func102 fun R_ hR_ => ?_
 refine sr_ fun _ hK1 => ?_
 refine WL.alloc HS (v := .agg #[sn, sn]) (cs := #[sn, sn]) rfl rfl (by decide) rfl (by kernel_rfl) rfl (fun b2 w3 hb2 HS => ?_)
 refine ad_ hK1 ?_
 clear hK1
 refine sr_ fun _ hK4 => ?_
 exact by (
 refine mv_ ?_
 obtain ⟨t5, ha6, H⟩ := bind_some H
 refine c_ func95 (spec_l01Below.runs k b0 (⟨x0.f0, x0.f1, x0.f2⟩ : S146) A0_0 c0_0 8 _ t5.1 t5.2 _ _ HS.b (HS.nodupM 1 rfl) (HS.boundM 1 rfl) (HS.footOM 1 rfl 1 rfl) hc0_0 (HS.mu 1 rfl) ha6) ?_
 clear ha6
 rintro _ w7 ⟨rfl, hbx_, hrest_, hB1_⟩
 replace HS := HS.calledM 1 rfl hB1_ hrest_ hbx_
 dsimp only [List.set] at HS
 clear hB1_ hrest_ hbx_
 exact by (
 refine ⟨_, rfl, ?_⟩
 refine b_ bin_add64 ?_
 obtain ⟨⟨q8, q9⟩, H⟩ := if_some H
 refine WL.make kI HS rfl rfl (by decide) rfl rfl rfl (vi 0) 8 0 underlying22 (by kernel_rfl) rfl (by decide) (by decide) (fun _ => (K_int _)) q8 (by omega) (fun v10 w11 I12 hI13 HS => ?_)
 replace HS := HS.deriveN (p := (rF kI (List.replicate (wrap64 (3 + t5.1)).toNat (0 : Int)) I12)) (fun W_ hN_ => hI13 W_)
 obtain ⟨A14, c15, rfl⟩ := row_slice (HS.mu 0 rfl)
 refine v_ (Run.build (cells := #[(.slice A14 ((List.replicate (wrap64 (3 + t5.1)).toNat (0 : Int)).length) c15), sn]) rfl [(0, (.slice A14 ((List.replicate (wrap64 (3 + t5.1)).toNat (0 : Int)).length) c15))] ⟨⟨rfl, rfl⟩, trivial⟩ (by kernel_rfl)) ?_
 refine WL.alloc HS (v := .agg #[sn, sn]) (cs := #[sn, sn]) rfl rfl (by decide) rfl (by kernel_rfl) rfl (fun b16 w17 hb16 HS => ?_)
 exact by (
 refine WL.storeW HS 0 rfl rfl rfl rfl rfl rfl (oneL rfl) (by kernel_rfl) rfl (fun w18 HS => ?_)
 dsimp only [List.set] at HS
 refine dn_ hK4 (sr_ fun _ hK19 => ?_)
 clear hK4
 refine v_ (fa_ underlying58) ?_
 refine v_ (lb_ (HS.mu 0 rfl) underlying22 rfl) ?_
 refine ln_ underlying22 ?_
 obtain ⟨⟨q20, q21⟩, H⟩ := if_some H
 exact by (
 refine WL.make kS62 HS rfl rfl (by decide) rfl rfl rfl (sn) 24 ([] : List S62) underlying56 (by kernel_rfl) rfl (by decide) (by decide) (fun _ => (K_slice (Nat.le_refl _) (Kd.C_nil _ _))) q20 (by omega) (fun v22 w23 I24 hI25 HS => ?_)
 replace HS := HS.deriveN (p := (rF kS62 (List.replicate ((List.replicate (wrap64 (3 + t5.1)).toNat (0 : Int)).length : Int).toNat ([] : List S62)) I24)) (fun W_ hN_ => hI25 W_)
 refine v_ (fa_ underlying58) ?_
 obtain ⟨A27, c28, rfl⟩ := row_slice (HS.mu 0 rfl)
 refine WL.store HS 1 rfl rfl rfl rfl rfl rfl rfl (by kernel_rfl) (ble_ rfl) (cs' := #[(.slice A14 ((List.replicate (wrap64 (3 + t5.1)).toNat (0 : Int)).length) c15), (.slice A27 ((List.replicate ((List.replicate (wrap64 (3 + t5.1)).toNat (0 : Int)).length : Int).toNat ([] : List S62)).length) c28)]) (by kernel_rfl) (fun w26 HS => ?_)
 dsimp only [List.set] at HS
 refine dn_ hK19 (sr_ fun _ hK29 => ?_)
 clear hK19
 exact by (
 refine v_ (Run.build (cells := #[sn, vi 0]) rfl [] trivial (by kernel_rfl)) ?_
 refine WL.litN HS (sz := 2) (z := (.agg #[sn, vi 0])) rfl rfl (by decide) rfl [[sn, vi 0]] ⟨⟨rfl, _, rfl, rfl, rfl⟩, trivial⟩ rfl underlying59 (by kernel_rfl) (by decide) (by decide) (fun v30 w31 HS => ?_)
 replace HS := HS.deriveN (p := (rF k67 [(⟨[], 0⟩ : S67)] (List.flatten [[sn, vi 0]]))) (fun W_ hN_ => reps_lit ⟨(k67_mk _ (⟨[], 0⟩ : S67) ((Nat.le_refl _)) (Kd.C_nil _ _)), trivial⟩)
 refine ad_ hK29 ?_
 clear hK29
 refine WC.seq fun K32 hK32 => ?_
 refine sr_ fun _ hK33 => ?_
 refine ad_ hK33 ?_
 exact by (
 clear hK33
 refine WC.block ?_
 have le38 := row_le (HS.mu 3 rfl)
 replace HS := HS.freezeN 3 (p := (cF kI A14 ((List.replicate (wrap64 (3 + t5.1)).toNat (0 : Int))))) rfl (fun W_ hm_ h_ => row_C (by rfl) hm_ h_.2.2.1)
 dsimp only [List.eraseIdx] at HS
 have le39 := row_le (HS.mu 1 rfl)
 replace HS := HS.freezeN 1 (p := (cF kS62 A27 ((List.replicate ((List.replicate (wrap64 (3 + t5.1)).toNat (0 : Int)).length : Int).toNat ([] : List S62))))) rfl (fun W_ hm_ h_ => row_C (by rfl) hm_ h_.2.2.1)
 dsimp only [List.eraseIdx] at HS
 exact by (
 obtain ⟨G34, hG35, oc36, H, Ho37⟩ := open_G H
 let J54 := fun (xs40 : List S67) v41 I42 (i43 : Int) (i44 : Int) (i45 : Int) (xs46 : List Int) A47 (c48 : Nat) (xs50 : List (List S62)) A51 (c52 : Nat) (E_ : Env) (W_ : World) => E_ = [(0, .pointer (some ⟨b0, 0, none⟩)), (1, vi a1), (4, .pointer (some ⟨b2, 0, none⟩)), (6, .pointer (some ⟨b16, 0, none⟩)), (7, v41), (8, vi i43)] ∧ xs46.length ≤ c48 ∧ xs50.length ≤ c52 ∧ St (fun _ => True) w0 W_ [rowM w0.heap.size 67 2 v41 xs40.length I42, boxM b16 #[.slice A47 xs46.length c48, .slice A51 xs50.length c52] 58, boxM b2 #[sn, sn] 58, boxM b0 #[.slice A0_0 x0.f0.length c0_0, vi i44, vi i45] 146, keepM w bs_] [(frameF w b0 bs_), (cF kU A0_0 x0.f0)] [(cF kS62 A51 xs50), (cF kI A47 xs46), (rF k67 xs40 I42)]
 have X55 : ∀ E_ W_, (∃ xs40 v41 I42 i43 i44 i45 xs46 A47 c48 xs50 A51 c52, G34 (xs40, i43, i44, i45, xs46, xs50) = some (r1, r2, y_) ∧ J54 xs40 v41 I42 i43 i44 i45 xs46 A47 c48 xs50 A51 c52 E_ W_) → ∀ a, Fits a 97 E_ → K32 a W_ := by
   rintro E_ w56 ⟨xs40, v41, I42, i43, i44, i45, xs46, A47, c48, xs50, A51, c52, H, rfl, le49, le53, HS⟩
   rw [hG35] at H
   (try dsimp only at H)
   refine hK32 _ _ ?_
   clear hK32
   exact by (
   refine sr_ fun _ hK57 => ?_
   refine v_ (ls_ (HS.mu 1 rfl) underlying58 part_all) ?_
   refine mv_ ?_
   refine WL.storeW HS 2 rfl rfl rfl rfl rfl rfl (oneL rfl) (by kernel_rfl) rfl (fun w58 HS => ?_)
   dsimp only [List.set] at HS
   refine ad_ hK57 ?_
   clear hK57
   refine WC.ret ?_
   exact by (
   obtain ⟨A59, c60, rfl⟩ := row_slice (HS.mu 0 rfl)
   have le61 := row_le (HS.mu 0 rfl)
   replace HS := HS.freezeN 0 (p := (cF k67 A59 (xs40))) rfl (fun W_ hm_ h_ => row_C (by rfl) hm_ h_.2.2.1)
   dsimp only [List.eraseIdx] at HS
   obtain ⟨rfl, rfl, rfl⟩ := (by have h_ := os H; simp only [Prod.mk.injEq] at h_; exact h_)
   have HSf := (St.forget (St.forget HS 1 rfl) 0 rfl)
   exact fin2 Try.f102 rfl ⟨_, rfl, resv_box (HS.mu 1 rfl) underlying58 rfl (by kernel_rfl)⟩ rfl hR_ ⟨_, _, _, _, _, _, rfl, le49, (foot_freshM (HSf.footN 2 rfl)), le53, (foot_freshM (HSf.footN 1 rfl)), le61, (foot_freshM (HSf.footN 0 rfl)), (HSf.mu 0 rfl), (rest_of (HSf.getO 0 rfl) (HSf.mu 1 rfl)), HSf.b⟩ ))
 clear hK32
 exact by (
 refine WC.loop (fun k_ E_ W_ => ∃ xs40 v41 I42 i43 i44 i45 xs46 A47 c48 xs50 A51 c52, (∃ o_, spec_l15Grown.l0 x0 a1 k_ xs40 i43 i44 i45 xs46 xs50 = some o_ ∧ G34 o_ = some (r1, r2, y_)) ∧ J54 xs40 v41 I42 i43 i44 i45 xs46 A47 c48 xs50 A51 c52 E_ W_) k ⟨([(⟨[], 0⟩ : S67)]), v30, (List.flatten [[sn, vi 0]]), 0, t5.2.f1, t5.2.f2, (List.replicate (wrap64 (3 + t5.1)).toNat (0 : Int)), A14, c15, (List.replicate ((List.replicate (wrap64 (3 + t5.1)).toNat (0 : Int)).length : Int).toNat ([] : List S62)), A27, c28, ⟨_, H, Ho37⟩, rfl, le38, le39, (St.pk HS [0, 1] [0, 1, 2] rfl rfl)⟩ (sb rfl) ?_
 rintro k_ E_ w63 ⟨xs40, v41, I42, i43, i44, i45, xs46, A47, c48, xs50, A51, c52, ⟨oc36, H, Ho37⟩, rfl, le49, le53, HS⟩
 rcases k_ with _ | k64
 · exact no_ H
 replace H : spec_l15Grown.b0 x0 a1 (spec_l15Grown.l0 x0 a1 k64) k64 xs40 i43 i44 i45 xs46 xs50 = some oc36 := H
 unfold spec_l15Grown.b0 at H
 refine WC.seq fun _ hK65 => ?_
 refine sr_ fun _ hK66 => ?_
 exact by (
 refine mv_ ?_
 refine mv_ ?_
 refine b_ bin_lss ?_
 refine dn_ hK66 ?_
 clear hK66
 rcases eti_ H with ⟨c67, H⟩ | ⟨c67, H⟩
 · refine wn_ (dF c67) (WC.exit ?_)
   obtain rfl := os H
   exact wv_ iq X55 ⟨xs40, v41, I42, i43, i44, i45, xs46, A47, c48, xs50, A51, c52, Ho37, rfl, le49, le53, HS⟩
 exact by (
 refine wy_ (dT c67) (WC.skip (via_ hK65 (WC.seq fun K68 hK68 => ?_)))
 clear hK65
 obtain ⟨G69, hG70, oc71, H, Ho72⟩ := open_G H
 have X86 : ∀ E_ W_, (∃ (xs73 : List S67) (v74 : Value) (I75 : List Value) (i76 : Int) (i77 : Int) (xs78 : List Int) (A79 : Option Addr) (c80 : Nat) (xs82 : List (List S62)) (A83 : Option Addr) (c84 : Nat), E_ = [(0, .pointer (some ⟨b0, 0, none⟩)), (1, vi a1), (4, .pointer (some ⟨b2, 0, none⟩)), (6, .pointer (some ⟨b16, 0, none⟩)), (7, v74), (8, vi i43)] ∧ G69 (xs73, i76, i77, xs78, xs82) = some oc36 ∧ xs78.length ≤ c80 ∧ xs82.length ≤ c84 ∧ St (fun _ => True) w0 W_ [rowM w0.heap.size 67 2 v74 xs73.length I75, boxM b16 #[.slice A79 xs78.length c80, .slice A83 xs82.length c84] 58, boxM b2 #[sn, sn] 58, boxM b0 #[.slice A0_0 x0.f0.length c0_0, vi i76, vi i77] 146, keepM w bs_] [(frameF w b0 bs_), (cF kU A0_0 x0.f0)] [(cF kS62 A83 xs82), (cF kI A79 xs78), (rF k67 xs73 I75)]) → ∀ a, Fits a 97 E_ → K68 a W_ := by
   rintro E_ w87 ⟨xs73, v74, I75, i76, i77, xs78, A79, c80, xs82, A83, c84, rfl, H, le81, le85, HS⟩
   rw [hG70] at H
   (try dsimp only at H)
   refine hK68 _ _ ?_
   exact by (
   clear hK68
   refine rg_ (mv_ ?_)
   refine b_ bin_add64 ?_
   refine as_ ?_
   refine WL.done ?_
   exact wr_ k64 iq ⟨xs73, v74, I75, (wrap64 (i43 + 1)), i76, i77, xs78, A79, c80, xs82, A83, c84, ⟨_, H, Ho37⟩, rfl, le81, le85, HS⟩ )
 clear hK68
 refine WC.block (sr_ fun _ hK89 => ?_)
 exact by (
 refine mv_ ?_
 refine mv_ ?_
 obtain ⟨A90, c91, rfl⟩ := row_slice (HS.mu 0 rfl)
 refine ln_ underlying59 ?_
 obtain ⟨t92, ha93, H⟩ := bind_some H
 refine c_ func95 (spec_l01Below.runs k64 b0 (⟨x0.f0, i44, i45⟩ : S146) A0_0 c0_0 (xs40.length : Int) _ t92.1 t92.2 _ _ HS.b (HS.nodupM 3 rfl) (HS.boundM 3 rfl) (HS.footOM 3 rfl 1 rfl) hc0_0 (HS.mu 3 rfl) ha93) ?_
 clear ha93
 rintro _ w94 ⟨rfl, hbx_, hrest_, hB1_⟩
 exact by (
 replace HS := HS.calledM 3 rfl hB1_ hrest_ hbx_
 dsimp only [List.set] at HS
 clear hB1_ hrest_ hbx_
 refine ⟨_, rfl, ?_⟩
 refine ad_ hK89 ?_
 clear hK89
 refine sr_ fun _ hK95 => ?_
 refine mv_ ?_
 exact by (
 obtain ⟨t96, ha97, H⟩ := bind_some H
 refine c_ func95 (spec_l01Below.runs k64 b0 (⟨x0.f0, t92.2.f1, t92.2.f2⟩ : S146) A0_0 c0_0 7 _ t96.1 t96.2 _ _ HS.b (HS.nodupM 3 rfl) (HS.boundM 3 rfl) (HS.footOM 3 rfl 1 rfl) hc0_0 (HS.mu 3 rfl) ha97) ?_
 clear ha97
 rintro _ w98 ⟨rfl, hbx_, hrest_, hB1_⟩
 replace HS := HS.calledM 3 rfl hB1_ hrest_ hbx_
 dsimp only [List.set] at HS
 clear hB1_ hrest_ hbx_
 refine ⟨_, rfl, ?_⟩
 exact by (
 refine dn_ hK95 (WC.block (sr_ fun _ hK99 => ?_))
 clear hK95
 refine b_ bin_eql ?_
 refine ad_ hK99 ?_
 clear hK99
 rcases ite_ H with ⟨c100, H⟩ | ⟨c100, H⟩
 · refine wy_ (eT c100) (sr_ fun _ hK101 => ?_)
   refine mv_ ?_
   exact by (
   refine ln_ underlying59 ?_
   refine b_ bin_lss ?_
   refine dn_ hK101 ?_
   clear hK101
   rcases eti_ H with ⟨c102, H⟩ | ⟨c102, H⟩
   · refine wn_ (dF c102) (WC.skip ?_)
     obtain rfl := os H
     exact wv_ iq X86 ⟨xs40, (.slice A90 xs40.length c91), I42, t96.2.f1, t96.2.f2, xs46, A47, c48, xs50, A51, c52, rfl, Ho72, le49, le53, HS⟩
   exact by (
   refine wy_ (dT c102) (WC.seq fun K103 hK103 => ?_)
   refine WC.drawW HS [rowM w0.heap.size 67 2 (.slice A90 xs40.length c91) xs40.length I42, boxM b16 #[.slice A47 xs46.length c48, .slice A51 xs50.length c52] 58, boxM b2 #[sn, sn] 58, boxM b0 #[.slice A0_0 x0.f0.length c0_0, vi t96.2.f1, vi t96.2.f2] 146] (fun _ HS => ⟨(HS.mu 0 rfl), (HS.mu 1 rfl), (HS.mu 2 rfl), (HS.mu 3 rfl), trivial⟩) [] rfl rfl (fun w104 HS => ?_)
   refine dm_ 1 ?_
   refine dm_ 2 ?_
   obtain ⟨⟨q105, q106⟩, H⟩ := if_some H
   obtain ⟨ad107, rfl⟩ := row_open (HS.mu 0 rfl) (lenpos q105 q106)
   refine di_ 3 underlying59 2 q105 q106 ?_
   refine dt_ 0 ⟨HS.nowO, HS.nowN, ⟨(HS.mu 0 rfl), (HS.mu 1 rfl), (HS.mu 2 rfl), (HS.mu 3 rfl), trivial⟩⟩ (fun w_ hw_ => Run.loadS (cs := [.slice A47 xs46.length c48, .slice A51 xs50.length c52]) rfl rfl underlying58 rfl (by kernel_rfl) (box_part hw_.2.2.2.1 part_all)) ?_
   exact by (
   obtain ⟨e108, hI109, el110, HS⟩ := HS.elRN 2 rfl o67 t92.1 q105 q106
   obtain ⟨A111, c112, hc113, le114, HS⟩ := HS.sN 0 rfl at67_0
   have hp115 := (show Part [.slice A111 ((xs40.getD t92.1.toNat o67).f0.length) c112, vi ((xs40.getD t92.1.toNat o67).f1)] e108 0 from (part_cons hc113 (part_cons (at67_1 (HS.aN 1 rfl)).int part_nil)))
   refine dt_ 4 ⟨HS.nowO, HS.nowN.2.2, ⟨(HS.mu 0 rfl), (HS.mu 1 rfl), (HS.mu 2 rfl), (HS.mu 3 rfl), trivial⟩⟩ (fun w_ hw_ => Run.loadS (cs := [.slice A111 ((xs40.getD t92.1.toNat o67).f0.length) c112, vi ((xs40.getD t92.1.toNat o67).f1)]) rfl rfl underlying67 rfl (by kernel_rfl) (elr_ hw_.2.2.1 hI109 hp115)) ?_
   have X116 : ∀ E_ W_, (∃ (b132 : Nat) (b134 : Nat) (t117 : S58 × S67 × Bool) (A120 : Option Addr) (c121 : Nat) (A124 : Option Addr) (c125 : Nat) (A128 : Option Addr) (c129 : Nat), E_ = [(0, .pointer (some ⟨b0, 0, none⟩)), (1, vi a1), (4, .pointer (some ⟨b2, 0, none⟩)), (6, .pointer (some ⟨b16, 0, none⟩)), (7, (.slice (some ad107) xs40.length c91)), (8, vi i43), (9, vi t92.1), (10, .pointer (some ⟨b132, 0, none⟩)), (11, .pointer (some ⟨b134, 0, none⟩)), (12, .bool t117.2.2), (28, vi i43), (29, vi a1), (30, .bool (decide (i43 < a1))), (33, .pointer (some ⟨b0, 0, none⟩)), (34, (.slice (some ad107) xs40.length c91)), (35, vi (xs40.length : Int)), (36, vi t92.1), (37, .pointer (some ⟨b0, 0, none⟩)), (38, vi t96.1), (57, .bool (t96.1 == 0)), (58, .bool (t96.1 == 0)), (59, (.slice (some ad107) xs40.length c91)), (60, vi (xs40.length : Int)), (61, .bool (decide ((xs40.length : Int) < 4))), (63, .agg #[.slice A47 xs46.length c48, .slice A51 xs50.length c52]), (64, (.slice (some ad107) xs40.length c91)), (65, vi t92.1), (66, .pointer (some (ad107.add (t92.1.toNat * 2)))), (67, .agg #[.slice A111 ((xs40.getD t92.1.toNat o67).f0.length) c112, vi ((xs40.getD t92.1.toNat o67).f1)]), (69, .agg #[.slice A120 t117.1.f0.length c121, .slice A124 t117.1.f1.length c125]), (70, .agg #[.slice A128 t117.2.1.f0.length c129, vi t117.2.1.f1]), (71, .bool t117.2.2)] ∧ (if t117.2.2 = true then (if (xs40.length) < 4294967296 then (some ((xs40 ++ [(⟨t117.2.1.f0, t117.2.1.f1⟩ : S67)]), t96.2.f1, t96.2.f2, t117.1.f0, t117.1.f1)) else none) else (some (xs40, t96.2.f1, t96.2.f2, xs46, xs50))) = some oc71 ∧ t117.1.f0.length ≤ c121 ∧ t117.1.f1.length ≤ c125 ∧ t117.2.1.f0.length ≤ c129 ∧ St (fun _ => True) w0 W_ [boxM b134 #[.slice A128 t117.2.1.f0.length c129, vi t117.2.1.f1] 67, boxM b132 #[.slice A120 t117.1.f0.length c121, .slice A124 t117.1.f1.length c125] 58, rowM w0.heap.size 67 2 (.slice (some ad107) xs40.length c91) xs40.length I42, boxM b16 #[.slice A47 xs46.length c48, .slice A51 xs50.length c52] 58, boxM b2 #[sn, sn] 58, boxM b0 #[.slice A0_0 x0.f0.length c0_0, vi t96.2.f1, vi t96.2.f2] 146, keepM w bs_] [(frameF w b0 bs_), (cF kU A0_0 x0.f0)] [(cF kI A120 t117.1.f0), (cF kS62 A124 t117.1.f1), (cF kI A128 t117.2.1.f0), (cF kI A111 (xs40.getD t92.1.toNat o67).f0), (kF k67 (xs40.getD t92.1.toNat o67) e108), (cF kS62 A51 xs50), (cF kI A47 xs46), (rF k67 xs40 I42)]) → ∀ a, Fits a 97 E_ → K103 a W_ := by
     rintro E_ w224 ⟨b132, b134, t117, A120, c121, A124, c125, A128, c129, rfl, H, le122, le126, le130, HS⟩
     refine hK103 _ _ ?_
     clear hK103
     exact by (
     refine sr_ fun _ hK225 => ?_
     refine mv_ ?_
     refine dn_ hK225 ?_
     clear hK225
     rcases eti_ H with ⟨c226, H⟩ | ⟨c226, H⟩
     · refine wn_ (bF c226) (WC.skip ?_)
       obtain rfl := os H
       exact wv_ iq X86 ⟨xs40, (.slice (some ad107) xs40.length c91), I42, t96.2.f1, t96.2.f2, xs46, A47, c48, xs50, A51, c52, rfl, Ho72, le49, le53, (St.pk (St.forget (St.forget HS 1 rfl) 0 rfl) [0, 1] [5, 6, 7] rfl rfl)⟩
     exact by (
     refine wy_ c226 ?_
     refine sr_ fun _ hK227 => ?_
     refine v_ (ls_ (HS.mu 1 rfl) underlying58 part_all) ?_
     refine WL.storeW HS 3 rfl rfl rfl rfl rfl rfl (oneL rfl) (by kernel_rfl) rfl (fun w228 HS => ?_)
     dsimp only [List.set] at HS
     refine dn_ hK227 (rg_ (mv_ ?_))
     clear hK227
     refine v_ (ls_ (HS.mu 0 rfl) underlying67 part_all) ?_
     exact by (
     refine WL.val rfl rfl (by decide) (Run.lit1 (z := (.agg #[sn, vi 0])) (vs := [.slice A128 t117.2.1.f0.length c129, vi t117.2.1.f1]) rfl rfl rfl underlying59 (by kernel_rfl) (ble_ rfl) (ble_ rfl)) ?_
     have HS1 := HS.below (below_alloc (Below.refl _ _) (.cells #[.slice A128 t117.2.1.f0.length c129, vi t117.2.1.f1] 67))
     obtain ⟨q229, H⟩ := if_some H
     refine WL.append HS1 2 rfl rfl rfl (by decide) rfl (.agg #[sn, vi 0]) 32 underlying59 (by kernel_rfl) rfl (by decide) (by decide) rfl rfl [.slice A128 t117.2.1.f0.length c129, vi t117.2.1.f1] rfl (lit_news _ _ _) (oneL rfl) (by omega) ((xs40 ++ [(⟨t117.2.1.f0, t117.2.1.f1⟩ : S67)]).length) (by simp) (fun v230 w231 I232 hI233 HS => ?_)
     dsimp only [List.set] at HS
     replace HS := HS.deriveN (p := (rF k67 (xs40 ++ [(⟨t117.2.1.f0, t117.2.1.f1⟩ : S67)]) I232)) (fun W_ hN_ => reps_snoc hI233 hN_.2.2.2.2.2.2.2.1 (k67_mk _ (⟨t117.2.1.f0, t117.2.1.f1⟩ : S67) (le130) hN_.2.2.1))
     clear HS1
     refine as_ ?_
     exact by (
     refine WL.done ?_
     obtain rfl := os H
     exact wv_ iq X86 ⟨(xs40 ++ [(⟨t117.2.1.f0, t117.2.1.f1⟩ : S67)]), v230, I232, t96.2.f1, t96.2.f2, t117.1.f0, A120, c121, t117.1.f1, A124, c125, rfl, Ho72, le122, le126, (St.pk (St.forget (St.forget HS 1 rfl) 0 rfl) [0, 1] [2, 1, 0] rfl rfl)⟩ ))))
   refine three__ 5 10 11 ?_ ?_ ?_
   · have HT_ := True.intro
     obtain ⟨t117, ha118, H⟩ := bind_some H
     refine dco_ 5 (w_none rfl) func71 (spec_ForkTable.runs k64 (⟨xs46, xs50⟩ : S58) A47 c48 A51 c52 (xs40.getD t92.1.toNat o67) A111 c112 t117.1 t117.2.1 t117.2.2 _ (HS.getN 3 rfl) le49 (HS.getN 2 rfl) le53 (HS.getN 0 rfl) le114 ha118) ?_
     clear ha118
     exact by (
     rintro _ w119 ⟨A120, c121, A124, c125, A128, c129, rfl, le122, hf123, le126, hf127, le130, hf131, hb⟩
     replace HS := HS.newNs hb (foot_cons hf123 (foot_cons hf127 (foot_cons hf131 foot_nil)))
     refine ⟨⟨HS.nowO, HS.nowN.2.2.2.2.2, ⟨(HS.mu 0 rfl), (HS.mu 1 rfl), (HS.mu 2 rfl), (HS.mu 3 rfl), trivial⟩⟩, _, rfl, ?_⟩
     clear hb
     refine dm_ 6 ?_
     refine dp_ 7 (fun _ => Run.extract rfl rfl rfl) ?_
     refine dp_ 8 (fun _ => Run.extract rfl rfl rfl) ?_
     refine dp_ 9 (fun _ => Run.extract rfl rfl rfl) ?_
     exact by (
     refine two__ 10 11 ?_ ?_
     · have HT_ := True.intro
       refine WDo.alloc (v := .agg #[sn, sn]) (cs := #[sn, sn]) 10 (w_none rfl) HS rfl (by kernel_rfl) rfl (fun b132 w133 hb132 HS => ?_)
       refine ⟨⟨HS.nowO, HS.nowN.2.2.2.2.2, ⟨(HS.mu 1 rfl), (HS.mu 2 rfl), (HS.mu 3 rfl), (HS.mu 4 rfl), trivial⟩⟩, ?_⟩
       refine WD.alloc (v := .agg #[sn, vi 0]) (cs := #[sn, vi 0]) 11 (w_none rfl) HS rfl (by kernel_rfl) rfl (fun b134 w135 hb134 HS => ?_)
       refine ⟨⟨HS.nowO, HS.nowN.2.2.2.2.2, ⟨(HS.mu 2 rfl), (HS.mu 3 rfl), (HS.mu 4 rfl), (HS.mu 5 rfl), trivial⟩⟩, ?_⟩
       refine WD.storeS 12 HS 1 rfl rfl rfl rfl (oneL rfl) (by kernel_rfl) (ble_ rfl) (cs' := #[.slice A120 t117.1.f0.length c121, .slice A124 t117.1.f1.length c125]) (by kernel_rfl) (fun w136 HS => ?_)
       dsimp only [List.set] at HS
       exact by (
       refine ⟨⟨HS.nowO, HS.nowN.2.2.2.2.2, ⟨(HS.mu 2 rfl), (HS.mu 3 rfl), (HS.mu 4 rfl), (HS.mu 5 rfl), trivial⟩⟩, ?_⟩
       refine WD.storeS 13 HS 0 rfl rfl rfl rfl (oneL rfl) (by kernel_rfl) (ble_ rfl) (cs' := #[.slice A128 t117.2.1.f0.length c129, vi t117.2.1.f1]) (by kernel_rfl) (fun w137 HS => ?_)
       dsimp only [List.set] at HS
       refine ⟨⟨HS.nowO, HS.nowN.2.2.2.2.2, ⟨(HS.mu 2 rfl), (HS.mu 3 rfl), (HS.mu 4 rfl), (HS.mu 5 rfl), trivial⟩⟩, ?_⟩
       refine dp_ 14 (fun _ => Run.assign rfl rfl) ?_
       exact dd_ (wv_ iq X116 ⟨b132, b134, t117, A120, c121, A124, c125, A128, c129, rfl, H, le122, le126, le130, HS⟩) )
     · have HT_ := True.intro
       refine WDo.alloc (v := .agg #[sn, vi 0]) (cs := #[sn, vi 0]) 11 (w_none rfl) HS rfl (by kernel_rfl) rfl (fun b138 w139 hb138 HS => ?_)
       exact by (
       refine ⟨⟨HS.nowO, HS.nowN.2.2.2.2.2, ⟨(HS.mu 1 rfl), (HS.mu 2 rfl), (HS.mu 3 rfl), (HS.mu 4 rfl), trivial⟩⟩, ?_⟩
       refine WD.alloc (v := .agg #[sn, sn]) (cs := #[sn, sn]) 10 (w_none rfl) HS rfl (by kernel_rfl) rfl (fun b140 w141 hb140 HS => ?_)
       refine ⟨⟨HS.nowO, HS.nowN.2.2.2.2.2, ⟨(HS.mu 2 rfl), (HS.mu 3 rfl), (HS.mu 4 rfl), (HS.mu 5 rfl), trivial⟩⟩, ?_⟩
       refine WD.storeS 12 HS 0 rfl rfl rfl rfl (oneL rfl) (by kernel_rfl) (ble_ rfl) (cs' := #[.slice A120 t117.1.f0.length c121, .slice A124 t117.1.f1.length c125]) (by kernel_rfl) (fun w142 HS => ?_)
       dsimp only [List.set] at HS
       refine ⟨⟨HS.nowO, HS.nowN.2.2.2.2.2, ⟨(HS.mu 2 rfl), (HS.mu 3 rfl), (HS.mu 4 rfl), (HS.mu 5 rfl), trivial⟩⟩, ?_⟩
       refine WD.storeS 13 HS 1 rfl rfl rfl rfl (oneL rfl) (by kernel_rfl) (ble_ rfl) (cs' := #[.slice A128 t117.2.1.f0.length c129, vi t117.2.1.f1]) (by kernel_rfl) (fun w143 HS => ?_)
       dsimp only [List.set] at HS
       exact by (
       refine ⟨⟨HS.nowO, HS.nowN.2.2.2.2.2, ⟨(HS.mu 2 rfl), (HS.mu 3 rfl), (HS.mu 4 rfl), (HS.mu 5 rfl), trivial⟩⟩, ?_⟩
       refine dp_ 14 (fun _ => Run.assign rfl rfl) ?_
       exact dd_ (wv_ iq X116 ⟨b140, b138, t117, A120, c121, A124, c125, A128, c129, rfl, H, le122, le126, le130, (St.front (St.front (St.front (St.front (St.front (St.front (St.front HS 6 rfl) 6 rfl) 6 rfl) 6 rfl) 6 rfl) 5 rfl) 6 rfl)⟩) ))))
   · have HT_ := True.intro
     refine WDo.alloc (v := .agg #[sn, sn]) (cs := #[sn, sn]) 10 (w_none rfl) HS rfl (by kernel_rfl) rfl (fun b144 w145 hb144 HS => ?_)
     refine ⟨⟨HS.nowO, HS.nowN.2.2, ⟨(HS.mu 1 rfl), (HS.mu 2 rfl), (HS.mu 3 rfl), (HS.mu 4 rfl), trivial⟩⟩, ?_⟩
     refine two__ 5 11 ?_ ?_
     · have HT_ := True.intro
       exact by (
       obtain ⟨t146, ha147, H⟩ := bind_some H
       refine dco_ 5 (w_none rfl) func71 (spec_ForkTable.runs k64 (⟨xs46, xs50⟩ : S58) A47 c48 A51 c52 (xs40.getD t92.1.toNat o67) A111 c112 t146.1 t146.2.1 t146.2.2 _ (HS.getN 3 rfl) le49 (HS.getN 2 rfl) le53 (HS.getN 0 rfl) le114 ha147) ?_
       clear ha147
       rintro _ w148 ⟨A149, c150, A153, c154, A157, c158, rfl, le151, hf152, le155, hf156, le159, hf160, hb⟩
       replace HS := HS.newNs hb (foot_cons hf152 (foot_cons hf156 (foot_cons hf160 foot_nil)))
       refine ⟨⟨HS.nowO, HS.nowN.2.2.2.2.2, ⟨(HS.mu 1 rfl), (HS.mu 2 rfl), (HS.mu 3 rfl), (HS.mu 4 rfl), trivial⟩⟩, _, rfl, ?_⟩
       clear hb
       refine dm_ 6 ?_
       exact by (
       refine dp_ 7 (fun _ => Run.extract rfl rfl rfl) ?_
       refine dp_ 8 (fun _ => Run.extract rfl rfl rfl) ?_
       refine dp_ 9 (fun _ => Run.extract rfl rfl rfl) ?_
       refine WD.alloc (v := .agg #[sn, vi 0]) (cs := #[sn, vi 0]) 11 (w_none rfl) HS rfl (by kernel_rfl) rfl (fun b161 w162 hb161 HS => ?_)
       refine ⟨⟨HS.nowO, HS.nowN.2.2.2.2.2, ⟨(HS.mu 2 rfl), (HS.mu 3 rfl), (HS.mu 4 rfl), (HS.mu 5 rfl), trivial⟩⟩, ?_⟩
       refine WD.storeS 12 HS 1 rfl rfl rfl rfl (oneL rfl) (by kernel_rfl) (ble_ rfl) (cs' := #[.slice A149 t146.1.f0.length c150, .slice A153 t146.1.f1.length c154]) (by kernel_rfl) (fun w163 HS => ?_)
       dsimp only [List.set] at HS
       refine ⟨⟨HS.nowO, HS.nowN.2.2.2.2.2, ⟨(HS.mu 2 rfl), (HS.mu 3 rfl), (HS.mu 4 rfl), (HS.mu 5 rfl), trivial⟩⟩, ?_⟩
       exact by (
       refine WD.storeS 13 HS 0 rfl rfl rfl rfl (oneL rfl) (by kernel_rfl) (ble_ rfl) (cs' := #[.slice A157 t146.2.1.f0.length c158, vi t146.2.1.f1]) (by kernel_rfl) (fun w164 HS => ?_)
       dsimp only [List.set] at HS
       refine ⟨⟨HS.nowO, HS.nowN.2.2.2.2.2, ⟨(HS.mu 2 rfl), (HS.mu 3 rfl), (HS.mu 4 rfl), (HS.mu 5 rfl), trivial⟩⟩, ?_⟩
       refine dp_ 14 (fun _ => Run.assign rfl rfl) ?_
       exact dd_ (wv_ iq X116 ⟨b144, b161, t146, A149, c150, A153, c154, A157, c158, rfl, H, le151, le155, le159, HS⟩) )))
     · have HT_ := True.intro
       refine WDo.alloc (v := .agg #[sn, vi 0]) (cs := #[sn, vi 0]) 11 (w_none rfl) HS rfl (by kernel_rfl) rfl (fun b165 w166 hb165 HS => ?_)
       refine ⟨⟨HS.nowO, HS.nowN.2.2, ⟨(HS.mu 2 rfl), (HS.mu 3 rfl), (HS.mu 4 rfl), (HS.mu 5 rfl), trivial⟩⟩, ?_⟩
       exact by (
       obtain ⟨t167, ha168, H⟩ := bind_some H
       refine dc_ 5 (w_none rfl) func71 (spec_ForkTable.runs k64 (⟨xs46, xs50⟩ : S58) A47 c48 A51 c52 (xs40.getD t92.1.toNat o67) A111 c112 t167.1 t167.2.1 t167.2.2 _ (HS.getN 3 rfl) le49 (HS.getN 2 rfl) le53 (HS.getN 0 rfl) le114 ha168) ?_
       clear ha168
       rintro _ w169 ⟨A170, c171, A174, c175, A178, c179, rfl, le172, hf173, le176, hf177, le180, hf181, hb⟩
       replace HS := HS.newNs hb (foot_cons hf173 (foot_cons hf177 (foot_cons hf181 foot_nil)))
       refine ⟨⟨HS.nowO, HS.nowN.2.2.2.2.2, ⟨(HS.mu 2 rfl), (HS.mu 3 rfl), (HS.mu 4 rfl), (HS.mu 5 rfl), trivial⟩⟩, _, rfl, ?_⟩
       clear hb
       refine dm_ 6 ?_
       exact by (
       refine dp_ 7 (fun _ => Run.extract rfl rfl rfl) ?_
       refine dp_ 8 (fun _ => Run.extract rfl rfl rfl) ?_
       refine dp_ 9 (fun _ => Run.extract rfl rfl rfl) ?_
       refine WD.storeS 12 HS 1 rfl rfl rfl rfl (oneL rfl) (by kernel_rfl) (ble_ rfl) (cs' := #[.slice A170 t167.1.f0.length c171, .slice A174 t167.1.f1.length c175]) (by kernel_rfl) (fun w182 HS => ?_)
       dsimp only [List.set] at HS
       refine ⟨⟨HS.nowO, HS.nowN.2.2.2.2.2, ⟨(HS.mu 2 rfl), (HS.mu 3 rfl), (HS.mu 4 rfl), (HS.mu 5 rfl), trivial⟩⟩, ?_⟩
       refine WD.storeS 13 HS 0 rfl rfl rfl rfl (oneL rfl) (by kernel_rfl) (ble_ rfl) (cs' := #[.slice A178 t167.2.1.f0.length c179, vi t167.2.1.f1]) (by kernel_rfl) (fun w183 HS => ?_)
       dsimp only [List.set] at HS
       exact by (
       refine ⟨⟨HS.nowO, HS.nowN.2.2.2.2.2, ⟨(HS.mu 2 rfl), (HS.mu 3 rfl), (HS.mu 4 rfl), (HS.mu 5 rfl), trivial⟩⟩, ?_⟩
       refine dp_ 14 (fun _ => Run.assign rfl rfl) ?_
       exact dd_ (wv_ iq X116 ⟨b144, b165, t167, A170, c171, A174, c175, A178, c179, rfl, H, le172, le176, le180, HS⟩) )))
   · have HT_ := True.intro
     refine WDo.alloc (v := .agg #[sn, vi 0]) (cs := #[sn, vi 0]) 11 (w_none rfl) HS rfl (by kernel_rfl) rfl (fun b184 w185 hb184 HS => ?_)
     refine ⟨⟨HS.nowO, HS.nowN.2.2, ⟨(HS.mu 1 rfl), (HS.mu 2 rfl), (HS.mu 3 rfl), (HS.mu 4 rfl), trivial⟩⟩, ?_⟩
     refine two__ 5 10 ?_ ?_
     · have HT_ := True.intro
       exact by (
       obtain ⟨t186, ha187, H⟩ := bind_some H
       refine dco_ 5 (w_none rfl) func71 (spec_ForkTable.runs k64 (⟨xs46, xs50⟩ : S58) A47 c48 A51 c52 (xs40.getD t92.1.toNat o67) A111 c112 t186.1 t186.2.1 t186.2.2 _ (HS.getN 3 rfl) le49 (HS.getN 2 rfl) le53 (HS.getN 0 rfl) le114 ha187) ?_
       clear ha187
       rintro _ w188 ⟨A189, c190, A193, c194, A197, c198, rfl, le191, hf192, le195, hf196, le199, hf200, hb⟩
       replace HS := HS.newNs hb (foot_cons hf192 (foot_cons hf196 (foot_cons hf200 foot_nil)))
       refine ⟨⟨HS.nowO, HS.nowN.2.2.2.2.2, ⟨(HS.mu 1 rfl), (HS.mu 2 rfl), (HS.mu 3 rfl), (HS.mu 4 rfl), trivial⟩⟩, _, rfl, ?_⟩
       clear hb
       refine dm_ 6 ?_
       exact by (
       refine dp_ 7 (fun _ => Run.extract rfl rfl rfl) ?_
       refine dp_ 8 (fun _ => Run.extract rfl rfl rfl) ?_
       refine dp_ 9 (fun _ => Run.extract rfl rfl rfl) ?_
       refine WD.alloc (v := .agg #[sn, sn]) (cs := #[sn, sn]) 10 (w_none rfl) HS rfl (by kernel_rfl) rfl (fun b201 w202 hb201 HS => ?_)
       refine ⟨⟨HS.nowO, HS.nowN.2.2.2.2.2, ⟨(HS.mu 2 rfl), (HS.mu 3 rfl), (HS.mu 4 rfl), (HS.mu 5 rfl), trivial⟩⟩, ?_⟩
       refine WD.storeS 12 HS 0 rfl rfl rfl rfl (oneL rfl) (by kernel_rfl) (ble_ rfl) (cs' := #[.slice A189 t186.1.f0.length c190, .slice A193 t186.1.f1.length c194]) (by kernel_rfl) (fun w203 HS => ?_)
       dsimp only [List.set] at HS
       refine ⟨⟨HS.nowO, HS.nowN.2.2.2.2.2, ⟨(HS.mu 2 rfl), (HS.mu 3 rfl), (HS.mu 4 rfl), (HS.mu 5 rfl), trivial⟩⟩, ?_⟩
       exact by (
       refine WD.storeS 13 HS 1 rfl rfl rfl rfl (oneL rfl) (by kernel_rfl) (ble_ rfl) (cs' := #[.slice A197 t186.2.1.f0.length c198, vi t186.2.1.f1]) (by kernel_rfl) (fun w204 HS => ?_)
       dsimp only [List.set] at HS
       refine ⟨⟨HS.nowO, HS.nowN.2.2.2.2.2, ⟨(HS.mu 2 rfl), (HS.mu 3 rfl), (HS.mu 4 rfl), (HS.mu 5 rfl), trivial⟩⟩, ?_⟩
       refine dp_ 14 (fun _ => Run.assign rfl rfl) ?_
       exact dd_ (wv_ iq X116 ⟨b201, b184, t186, A189, c190, A193, c194, A197, c198, rfl, H, le191, le195, le199, (St.front (St.front (St.front (St.front (St.front (St.front (St.front HS 6 rfl) 6 rfl) 6 rfl) 6 rfl) 6 rfl) 5 rfl) 6 rfl)⟩) )))
     · have HT_ := True.intro
       refine WDo.alloc (v := .agg #[sn, sn]) (cs := #[sn, sn]) 10 (w_none rfl) HS rfl (by kernel_rfl) rfl (fun b205 w206 hb205 HS => ?_)
       refine ⟨⟨HS.nowO, HS.nowN.2.2, ⟨(HS.mu 2 rfl), (HS.mu 3 rfl), (HS.mu 4 rfl), (HS.mu 5 rfl), trivial⟩⟩, ?_⟩
       exact by (
       obtain ⟨t207, ha208, H⟩ := bind_some H
       refine dc_ 5 (w_none rfl) func71 (spec_ForkTable.runs k64 (⟨xs46, xs50⟩ : S58) A47 c48 A51 c52 (xs40.getD t92.1.toNat o67) A111 c112 t207.1 t207.2.1 t207.2.2 _ (HS.getN 3 rfl) le49 (HS.getN 2 rfl) le53 (HS.getN 0 rfl) le114 ha208) ?_
       clear ha208
       rintro _ w209 ⟨A210, c211, A214, c215, A218, c219, rfl, le212, hf213, le216, hf217, le220, hf221, hb⟩
       replace HS := HS.newNs hb (foot_cons hf213 (foot_cons hf217 (foot_cons hf221 foot_nil)))
       refine ⟨⟨HS.nowO, HS.nowN.2.2.2.2.2, ⟨(HS.mu 2 rfl), (HS.mu 3 rfl), (HS.mu 4 rfl), (HS.mu 5 rfl), trivial⟩⟩, _, rfl, ?_⟩
       clear hb
       refine dm_ 6 ?_
       exact by (
       refine dp_ 7 (fun _ => Run.extract rfl rfl rfl) ?_
       refine dp_ 8 (fun _ => Run.extract rfl rfl rfl) ?_
       refine dp_ 9 (fun _ => Run.extract rfl rfl rfl) ?_
       refine WD.storeS 12 HS 0 rfl rfl rfl rfl (oneL rfl) (by kernel_rfl) (ble_ rfl) (cs' := #[.slice A210 t207.1.f0.length c211, .slice A214 t207.1.f1.length c215]) (by kernel_rfl) (fun w222 HS => ?_)
       dsimp only [List.set] at HS
       refine ⟨⟨HS.nowO, HS.nowN.2.2.2.2.2, ⟨(HS.mu 2 rfl), (HS.mu 3 rfl), (HS.mu 4 rfl), (HS.mu 5 rfl), trivial⟩⟩, ?_⟩
       refine WD.storeS 13 HS 1 rfl rfl rfl rfl (oneL rfl) (by kernel_rfl) (ble_ rfl) (cs' := #[.slice A218 t207.2.1.f0.length c219, vi t207.2.1.f1]) (by kernel_rfl) (fun w223 HS => ?_)
       dsimp only [List.set] at HS
       exact by (
       refine ⟨⟨HS.nowO, HS.nowN.2.2.2.2.2, ⟨(HS.mu 2 rfl), (HS.mu 3 rfl), (HS.mu 4 rfl), (HS.mu 5 rfl), trivial⟩⟩, ?_⟩
       refine dp_ 14 (fun _ => Run.assign rfl rfl) ?_
       exact dd_ (wv_ iq X116 ⟨b205, b184, t207, A210, c211, A214, c215, A218, c219, rfl, H, le212, le216, le220, (St.front (St.front (St.front (St.front (St.front (St.front (St.front HS 6 rfl) 6 rfl) 6 rfl) 6 rfl) 6 rfl) 5 rfl) 6 rfl)⟩) ))))))
 refine wn_ (eF c100) (sr_ fun _ hK234 => ?_)
 refine b_ bin_eql ?_
 refine ad_ hK234 ?_
 clear hK234
 rcases ite_ H with ⟨c235, H⟩ | ⟨c235, H⟩
 · refine wy_ (eT c235) (sr_ fun _ hK236 => ?_)
   exact by (
   refine mv_ ?_
   obtain ⟨t237, ha238, H⟩ := bind_some H
   refine c_ func142 (spec_l01Once.runs k64 b0 (⟨x0.f0, t96.2.f1, t96.2.f2⟩ : S146) A0_0 c0_0 3 _ t237.1 t237.2 _ _ HS.b (HS.nodupM 3 rfl) (HS.boundM 3 rfl) (HS.footOM 3 rfl 1 rfl) hc0_0 (HS.mu 3 rfl) ha238) ?_
   clear ha238
   rintro _ w239 ⟨rfl, hbx_, hrest_, hB1_⟩
   replace HS := HS.calledM 3 rfl hB1_ hrest_ hbx_
   dsimp only [List.set] at HS
   clear hB1_ hrest_ hbx_
   exact by (
   refine ⟨_, rfl, ?_⟩
   refine dn_ hK236 ?_
   clear hK236
   rcases eti_ H with ⟨c240, H⟩ | ⟨c240, H⟩
   · refine wn_ (bF c240) (WC.skip ?_)
     obtain rfl := os H
     exact wv_ iq X86 ⟨xs40, (.slice A90 xs40.length c91), I42, t237.2.f1, t237.2.f2, xs46, A47, c48, xs50, A51, c52, rfl, Ho72, le49, le53, HS⟩
   refine wy_ c240 ?_
   exact by (
   refine WC.seq fun _ hK241 => ?_
   refine WC.drawW HS [rowM w0.heap.size 67 2 (.slice A90 xs40.length c91) xs40.length I42, boxM b16 #[.slice A47 xs46.length c48, .slice A51 xs50.length c52] 58, boxM b2 #[sn, sn] 58, boxM b0 #[.slice A0_0 x0.f0.length c0_0, vi t237.2.f1, vi t237.2.f2] 146] (fun _ HS => ⟨(HS.mu 0 rfl), (HS.mu 1 rfl), (HS.mu 2 rfl), (HS.mu 3 rfl), trivial⟩) [9] rfl rfl (fun w242 HS => ?_)
   refine dm_ 1 ?_
   refine dm_ 2 ?_
   obtain ⟨⟨q243, q244⟩, H⟩ := if_some H
   obtain ⟨ad245, rfl⟩ := row_open (HS.mu 0 rfl) (lenpos q243 q244)
   refine di_ 3 underlying59 2 q243 q244 ?_
   refine dt_ 0 ⟨HS.nowO, HS.nowN, ⟨(HS.mu 0 rfl), (HS.mu 1 rfl), (HS.mu 2 rfl), (HS.mu 3 rfl), trivial⟩⟩ (fun w_ hw_ => Run.loadS (cs := [.slice A47 xs46.length c48, .slice A51 xs50.length c52]) rfl rfl underlying58 rfl (by kernel_rfl) (box_part hw_.2.2.2.1 part_all)) ?_
   exact by (
   obtain ⟨e246, hI247, el248, HS⟩ := HS.elRN 2 rfl o67 t92.1 q243 q244
   obtain ⟨A249, c250, hc251, le252, HS⟩ := HS.sN 0 rfl at67_0
   have hp253 := (show Part [.slice A249 ((xs40.getD t92.1.toNat o67).f0.length) c250, vi ((xs40.getD t92.1.toNat o67).f1)] e246 0 from (part_cons hc251 (part_cons (at67_1 (HS.aN 1 rfl)).int part_nil)))
   refine dt_ 4 ⟨HS.nowO, HS.nowN.2.2, ⟨(HS.mu 0 rfl), (HS.mu 1 rfl), (HS.mu 2 rfl), (HS.mu 3 rfl), trivial⟩⟩ (fun w_ hw_ => Run.loadS (cs := [.slice A249 ((xs40.getD t92.1.toNat o67).f0.length) c250, vi ((xs40.getD t92.1.toNat o67).f1)]) rfl rfl underlying67 rfl (by kernel_rfl) (elr_ hw_.2.2.1 hI247 hp253)) ?_
   obtain ⟨t254, ha255, H⟩ := bind_some H
   refine dc_ 5 (w_none rfl) func69 (spec_DropTable.runs k64 (⟨xs46, xs50⟩ : S58) A47 c48 A51 c52 (xs40.getD t92.1.toNat o67) A249 c250 t254.1 t254.2 _ (HS.getN 3 rfl) le49 (HS.getN 2 rfl) le53 (HS.getN 0 rfl) le252 ha255) ?_
   clear ha255
   rintro _ w256 ⟨v257, bl258, v259, bl260, rfl, hO_, hb⟩
   exact by (
   replace HS := HS.got hb hO_
   dsimp only [List.cons_append, List.nil_append] at HS
   clear hO_
   obtain ⟨I261, bl262, HS⟩ := HS.unseal (sz := 1) rfl
   replace HS := HS.freezeN 1 (p := (rF kI t254.1.f0 I261)) rfl (fun _ hP_ _ => RepsB.reps hP_)
   dsimp only [List.eraseIdx] at HS
   replace HS := HS.front 1 rfl
   dsimp only [List.eraseIdx] at HS
   exact by (
   obtain ⟨I263, bl264, HS⟩ := HS.unseal (sz := 1) rfl
   replace HS := HS.freezeN 1 (p := (rF kS62 t254.1.f1 I263)) rfl (fun _ hP_ _ => RepsB.reps hP_)
   dsimp only [List.eraseIdx] at HS
   refine ⟨⟨HS.nowO, HS.nowN.2.2.2.2, ⟨(HS.mu 2 rfl), (HS.mu 3 rfl), (HS.mu 4 rfl), (HS.mu 5 rfl), trivial⟩⟩, _, rfl, ?_⟩
   clear hb
   refine dm_ 6 ?_
   refine dp_ 7 (fun _ => Run.extract rfl rfl rfl) ?_
   refine dp_ 8 (fun _ => Run.extract rfl rfl rfl) ?_
   exact by (
   obtain ⟨A266, c267, rfl⟩ := row_slice (HS.mu 1 rfl)
   obtain ⟨A268, c269, rfl⟩ := row_slice (HS.mu 0 rfl)
   refine WD.storeSL 9 HS 3 rfl rfl rfl rfl (oneL rfl) (by kernel_rfl) (ble_ rfl) (cs' := #[(.slice A266 t254.1.f0.length c267), (.slice A268 t254.1.f1.length c269)]) (by kernel_rfl) (fun w265 HS => ?_)
   dsimp only [List.set] at HS
   refine dd_ (via_ hK241 (rg_ (mv_ ?_)))
   clear hK241
   refine mv_ ?_
   refine v_ (Run.build (cells := #[sn, vi 0]) rfl [] trivial (by kernel_rfl)) ?_
   exact by (
   refine v_ (ia_ underlying59 2 q243 q244) ?_
   have hk_ := mul_room q243 q244 2
   refine WL.putEl HS 2 rfl rfl rfl rfl rfl rfl [sn, vi 0] rfl (oneL rfl) (by kernel_rfl) (by first | omega | (rw [List.length_nil]; omega) | (simp; omega)) (fun w270 I271 hI272 HS => ?_)
   dsimp only [List.set] at HS
   clear hk_
   replace HS := HS.deriveN (p := (rF k67 (xs40.set t92.1.toNat (⟨[], 0⟩ : S67)) I271)) (fun W_ hN_ => reps_set hI272 hN_.2.2.2.2.2.2.1 (k67_mk _ (⟨[], 0⟩ : S67) ((Nat.le_refl _)) (Kd.C_nil _ _)) (toNat_lt q243 q244))
   replace HS := HS.rowN 2 rfl (show xs40.length = (xs40.set t92.1.toNat (⟨[], 0⟩ : S67)).length from (List.length_set ..).symm)
   dsimp only [List.set] at HS
   exact by (
   generalize hv274 : (Value.slice (some ad245) xs40.length c91) = v273 at HS ⊢
   refine WL.done ?_
   obtain rfl := os H
   have le275 := row_le (HS.mu 1 rfl)
   replace HS := HS.freezeN 1 (p := (cF kI A266 (t254.1.f0))) rfl (fun W_ hm_ h_ => row_C (by rfl) hm_ h_.2.2.1)
   dsimp only [List.eraseIdx] at HS
   have le276 := row_le (HS.mu 0 rfl)
   replace HS := HS.freezeN 0 (p := (cF kS62 A268 (t254.1.f1))) rfl (fun W_ hm_ h_ => row_C (by rfl) hm_ h_.2.2.1)
   exact by (
   dsimp only [List.eraseIdx] at HS
   exact wv_ iq X86 ⟨(xs40.set t92.1.toNat (⟨[], 0⟩ : S67)), v273, I271, t237.2.f1, t237.2.f2, t254.1.f0, A266, c267, t254.1.f1, A268, c269, rfl, Ho72, le275, le276, (St.pk HS [0, 1] [0, 1, 2] rfl rfl)⟩ ))))))))))
 refine wn_ (eF c235) (WC.seq fun K277 hK277 => ?_)
 refine WC.drawW HS [rowM w0.heap.size 67 2 (.slice A90 xs40.length c91) xs40.length I42, boxM b16 #[.slice A47 xs46.length c48, .slice A51 xs50.length c52] 58, boxM b2 #[sn, sn] 58] (fun _ HS => ⟨(HS.mu 0 rfl), (HS.mu 1 rfl), (HS.mu 2 rfl), trivial⟩) [] rfl rfl (fun w278 HS => ?_)
 refine dm_ 1 ?_
 refine dm_ 2 ?_
 obtain ⟨⟨q279, q280⟩, H⟩ := if_some H
 obtain ⟨ad281, rfl⟩ := row_open (HS.mu 0 rfl) (lenpos q279 q280)
 exact by (
 refine di_ 3 underlying59 2 q279 q280 ?_
 refine dm_ 5 ?_
 refine dt_ 0 ⟨HS.nowO, HS.nowN, ⟨(HS.mu 0 rfl), (HS.mu 1 rfl), (HS.mu 2 rfl), trivial⟩⟩ (fun w_ hw_ => Run.loadS (cs := [.slice A47 xs46.length c48, .slice A51 xs50.length c52]) rfl rfl underlying58 rfl (by kernel_rfl) (box_part hw_.2.2.2.1 part_all)) ?_
 obtain ⟨e282, hI283, el284, HS⟩ := HS.elRN 2 rfl o67 t92.1 q279 q280
 obtain ⟨A285, c286, hc287, le288, HS⟩ := HS.sN 0 rfl at67_0
 have hp289 := (show Part [.slice A285 ((xs40.getD t92.1.toNat o67).f0.length) c286, vi ((xs40.getD t92.1.toNat o67).f1)] e282 0 from (part_cons hc287 (part_cons (at67_1 (HS.aN 1 rfl)).int part_nil)))
 refine dt_ 4 ⟨HS.nowO, HS.nowN.2.2, ⟨(HS.mu 0 rfl), (HS.mu 1 rfl), (HS.mu 2 rfl), trivial⟩⟩ (fun w_ hw_ => Run.loadS (cs := [.slice A285 ((xs40.getD t92.1.toNat o67).f0.length) c286, vi ((xs40.getD t92.1.toNat o67).f1)]) rfl rfl underlying67 rfl (by kernel_rfl) (elr_ hw_.2.2.1 hI283 hp289)) ?_
 have X290 : ∀ E_ W_, (∃ (b317 : Nat) (b319 : Nat) (t302 : S58 × S67 × Bool) (A294 : Option Addr) (t291 : S62 × S146) (c295 : Nat) (A298 : Option Addr) (c299 : Nat) (A305 : Option Addr) (c306 : Nat) (A309 : Option Addr) (c310 : Nat) (A313 : Option Addr) (c314 : Nat), E_ = [(0, .pointer (some ⟨b0, 0, none⟩)), (1, vi a1), (4, .pointer (some ⟨b2, 0, none⟩)), (6, .pointer (some ⟨b16, 0, none⟩)), (7, (.slice (some ad281) xs40.length c91)), (8, vi i43), (9, vi t92.1), (13, .pointer (some ⟨b317, 0, none⟩)), (14, .pointer (some ⟨b319, 0, none⟩)), (15, .bool t302.2.2), (28, vi i43), (29, vi a1), (30, .bool (decide (i43 < a1))), (33, .pointer (some ⟨b0, 0, none⟩)), (34, (.slice (some ad281) xs40.length c91)), (35, vi (xs40.length : Int)), (36, vi t92.1), (37, .pointer (some ⟨b0, 0, none⟩)), (38, vi t96.1), (40, .agg #[.slice A47 xs46.length c48, .slice A51 xs50.length c52]), (41, (.slice (some ad281) xs40.length c91)), (42, vi t92.1), (43, .pointer (some (ad281.add (t92.1.toNat * 2)))), (44, .agg #[.slice A285 ((xs40.getD t92.1.toNat o67).f0.length) c286, vi ((xs40.getD t92.1.toNat o67).f1)]), (45, .pointer (some ⟨b0, 0, none⟩)), (46, .agg #[.slice A294 t291.1.f0.length c295, .slice A298 t291.1.f1.length c299]), (48, .agg #[.slice A305 t302.1.f0.length c306, .slice A309 t302.1.f1.length c310]), (49, .agg #[.slice A313 t302.2.1.f0.length c314, vi t302.2.1.f1]), (50, .bool t302.2.2), (57, .bool (t96.1 == 0)), (58, .bool (t96.1 == 0)), (78, .bool (t96.1 == 1)), (79, .bool (t96.1 == 1))] ∧ (if t302.2.2 = true then (some ((xs40.set t92.1.toNat (⟨t302.2.1.f0, t302.2.1.f1⟩ : S67)), t291.2.f1, t291.2.f2, t302.1.f0, t302.1.f1)) else (some (xs40, t291.2.f1, t291.2.f2, xs46, xs50))) = some oc71 ∧ t302.1.f0.length ≤ c306 ∧ t302.1.f1.length ≤ c310 ∧ t302.2.1.f0.length ≤ c314 ∧ t291.1.f0.length ≤ c295 ∧ t291.1.f1.length ≤ c299 ∧ St (fun _ => True) w0 W_ [boxM b319 #[.slice A313 t302.2.1.f0.length c314, vi t302.2.1.f1] 67, boxM b317 #[.slice A305 t302.1.f0.length c306, .slice A309 t302.1.f1.length c310] 58, rowM w0.heap.size 67 2 (.slice (some ad281) xs40.length c91) xs40.length I42, boxM b16 #[.slice A47 xs46.length c48, .slice A51 xs50.length c52] 58, boxM b2 #[sn, sn] 58, boxM b0 #[.slice A0_0 x0.f0.length c0_0, vi t291.2.f1, vi t291.2.f2] 146, keepM w bs_] [(frameF w b0 bs_), (cF kU A0_0 x0.f0)] [(cF kI A305 t302.1.f0), (cF kS62 A309 t302.1.f1), (cF kI A313 t302.2.1.f0), (cF kS149 A294 t291.1.f0), (cF kS149 A298 t291.1.f1), (cF kI A285 (xs40.getD t92.1.toNat o67).f0), (kF k67 (xs40.getD t92.1.toNat o67) e282), (cF kS62 A51 xs50), (cF kI A47 xs46), (rF k67 xs40 I42)]) → ∀ a, Fits a 97 E_ → K277 a W_ := by
   exact by (
   rintro E_ w571 ⟨b317, b319, t302, A294, t291, c295, A298, c299, A305, c306, A309, c310, A313, c314, rfl, H, le307, le311, le315, le296, le300, HS⟩
   refine hK277 _ _ ?_
   clear hK277
   refine sr_ fun _ hK572 => ?_
   refine mv_ ?_
   refine dn_ hK572 ?_
   clear hK572
   rcases eti_ H with ⟨c573, H⟩ | ⟨c573, H⟩
   · refine wn_ (bF c573) (WC.skip ?_)
     obtain rfl := os H
     exact wv_ iq X86 ⟨xs40, (.slice (some ad281) xs40.length c91), I42, t291.2.f1, t291.2.f2, xs46, A47, c48, xs50, A51, c52, rfl, Ho72, le49, le53, (St.pk (St.forget (St.forget HS 1 rfl) 0 rfl) [0, 1] [7, 8, 9] rfl rfl)⟩
   exact by (
   refine wy_ c573 ?_
   refine sr_ fun _ hK574 => ?_
   refine v_ (ls_ (HS.mu 1 rfl) underlying58 part_all) ?_
   refine WL.storeW HS 3 rfl rfl rfl rfl rfl rfl (oneL rfl) (by kernel_rfl) rfl (fun w575 HS => ?_)
   dsimp only [List.set] at HS
   refine dn_ hK574 (rg_ (mv_ ?_))
   clear hK574
   refine mv_ ?_
   exact by (
   refine v_ (ls_ (HS.mu 0 rfl) underlying67 part_all) ?_
   refine v_ (ia_ underlying59 2 q279 q280) ?_
   have hk_ := mul_room q279 q280 2
   refine WL.putEl HS 2 rfl rfl rfl rfl rfl rfl [.slice A313 t302.2.1.f0.length c314, vi t302.2.1.f1] rfl (oneL rfl) (by kernel_rfl) (by first | omega | (rw [List.length_nil]; omega) | (simp; omega)) (fun w576 I577 hI578 HS => ?_)
   dsimp only [List.set] at HS
   clear hk_
   replace HS := HS.deriveN (p := (rF k67 (xs40.set t92.1.toNat (⟨t302.2.1.f0, t302.2.1.f1⟩ : S67)) I577)) (fun W_ hN_ => reps_set hI578 hN_.2.2.2.2.2.2.2.2.2.1 (k67_mk _ (⟨t302.2.1.f0, t302.2.1.f1⟩ : S67) (le315) hN_.2.2.1) (toNat_lt q279 q280))
   replace HS := HS.rowN 2 rfl (show xs40.length = (xs40.set t92.1.toNat (⟨t302.2.1.f0, t302.2.1.f1⟩ : S67)).length from (List.length_set ..).symm)
   exact by (
   dsimp only [List.set] at HS
   generalize hv580 : (Value.slice (some ad281) xs40.length c91) = v579 at HS ⊢
   refine WL.done ?_
   obtain rfl := os H
   exact wv_ iq X86 ⟨(xs40.set t92.1.toNat (⟨t302.2.1.f0, t302.2.1.f1⟩ : S67)), v579, I577, t291.2.f1, t291.2.f2, t302.1.f0, A305, c306, t302.1.f1, A309, c310, rfl, Ho72, le307, le311, (St.pk (St.forget (St.forget HS 1 rfl) 0 rfl) [0, 1] [2, 1, 0] rfl rfl)⟩ ))))
 refine three__ 6 12 13 ?_ ?_ ?_
 · have HT_ := True.intro
   obtain ⟨t291, ha292, H⟩ := bind_some H
   exact by (
   refine dco_ 6 (w_none rfl) func103 (spec_l15Small.runs k64 b0 (⟨x0.f0, t96.2.f1, t96.2.f2⟩ : S146) A0_0 c0_0 _ t291.1 t291.2 _ _ HS.b (HS.nodupM 3 rfl) (HS.boundM 3 rfl) (HS.footOM 3 rfl 1 rfl) hc0_0 (HS.mu 3 rfl) ha292) ?_
   clear ha292
   rintro _ w293 ⟨A294, c295, A298, c299, rfl, le296, hf297, le300, hf301, hbx_, hrest_, hB1_⟩
   replace HS := HS.newM 3 rfl hB1_ hrest_ hbx_ (foot_cons hf297 (foot_cons hf301 foot_nil))
   dsimp only [List.set] at HS
   clear hB1_ hrest_ hbx_
   refine ⟨⟨HS.nowO, HS.nowN.2.2.2.2, ⟨(HS.mu 0 rfl), (HS.mu 1 rfl), (HS.mu 2 rfl), trivial⟩⟩, _, rfl, ?_⟩
   refine three__ 7 12 13 ?_ ?_ ?_
   · have HT_ := True.intro
     exact by (
     obtain ⟨t302, ha303, H⟩ := bind_some H
     refine dco_ 7 (w_none rfl) func46 (spec_AddCell.runs k64 (⟨xs46, xs50⟩ : S58) A47 c48 A51 c52 (xs40.getD t92.1.toNat o67) A285 c286 t291.1 A294 c295 A298 c299 t302.1 t302.2.1 t302.2.2 _ (HS.getN 5 rfl) le49 (HS.getN 4 rfl) le53 (HS.getN 2 rfl) le288 (HS.getN 0 rfl) le296 (HS.getN 1 rfl) le300 ha303) ?_
     clear ha303
     rintro _ w304 ⟨A305, c306, A309, c310, A313, c314, rfl, le307, hf308, le311, hf312, le315, hf316, hb⟩
     replace HS := HS.newNs hb (foot_cons hf308 (foot_cons hf312 (foot_cons hf316 foot_nil)))
     refine ⟨⟨HS.nowO, HS.nowN.2.2.2.2.2.2.2, ⟨(HS.mu 0 rfl), (HS.mu 1 rfl), (HS.mu 2 rfl), trivial⟩⟩, _, rfl, ?_⟩
     clear hb
     refine dm_ 8 ?_
     exact by (
     refine dp_ 9 (fun _ => Run.extract rfl rfl rfl) ?_
     refine dp_ 10 (fun _ => Run.extract rfl rfl rfl) ?_
     refine dp_ 11 (fun _ => Run.extract rfl rfl rfl) ?_
     refine two__ 12 13 ?_ ?_
     · have HT_ := True.intro
       refine WDo.alloc (v := .agg #[sn, sn]) (cs := #[sn, sn]) 12 (w_none rfl) HS rfl (by kernel_rfl) rfl (fun b317 w318 hb317 HS => ?_)
       refine ⟨⟨HS.nowO, HS.nowN.2.2.2.2.2.2.2, ⟨(HS.mu 1 rfl), (HS.mu 2 rfl), (HS.mu 3 rfl), trivial⟩⟩, ?_⟩
       refine WD.alloc (v := .agg #[sn, vi 0]) (cs := #[sn, vi 0]) 13 (w_none rfl) HS rfl (by kernel_rfl) rfl (fun b319 w320 hb319 HS => ?_)
       exact by (
       refine ⟨⟨HS.nowO, HS.nowN.2.2.2.2.2.2.2, ⟨(HS.mu 2 rfl), (HS.mu 3 rfl), (HS.mu 4 rfl), trivial⟩⟩, ?_⟩
       refine WD.storeS 14 HS 1 rfl rfl rfl rfl (oneL rfl) (by kernel_rfl) (ble_ rfl) (cs' := #[.slice A305 t302.1.f0.length c306, .slice A309 t302.1.f1.length c310]) (by kernel_rfl) (fun w321 HS => ?_)
       dsimp only [List.set] at HS
       refine ⟨⟨HS.nowO, HS.nowN.2.2.2.2.2.2.2, ⟨(HS.mu 2 rfl), (HS.mu 3 rfl), (HS.mu 4 rfl), trivial⟩⟩, ?_⟩
       refine WD.storeS 15 HS 0 rfl rfl rfl rfl (oneL rfl) (by kernel_rfl) (ble_ rfl) (cs' := #[.slice A313 t302.2.1.f0.length c314, vi t302.2.1.f1]) (by kernel_rfl) (fun w322 HS => ?_)
       dsimp only [List.set] at HS
       refine ⟨⟨HS.nowO, HS.nowN.2.2.2.2.2.2.2, ⟨(HS.mu 2 rfl), (HS.mu 3 rfl), (HS.mu 4 rfl), trivial⟩⟩, ?_⟩
       refine dp_ 16 (fun _ => Run.assign rfl rfl) ?_
       exact dd_ (wv_ iq X290 ⟨b317, b319, t302, A294, t291, c295, A298, c299, A305, c306, A309, c310, A313, c314, rfl, H, le307, le311, le315, le296, le300, HS⟩) )
     · have HT_ := True.intro
       exact by (
       refine WDo.alloc (v := .agg #[sn, vi 0]) (cs := #[sn, vi 0]) 13 (w_none rfl) HS rfl (by kernel_rfl) rfl (fun b323 w324 hb323 HS => ?_)
       refine ⟨⟨HS.nowO, HS.nowN.2.2.2.2.2.2.2, ⟨(HS.mu 1 rfl), (HS.mu 2 rfl), (HS.mu 3 rfl), trivial⟩⟩, ?_⟩
       refine WD.alloc (v := .agg #[sn, sn]) (cs := #[sn, sn]) 12 (w_none rfl) HS rfl (by kernel_rfl) rfl (fun b325 w326 hb325 HS => ?_)
       refine ⟨⟨HS.nowO, HS.nowN.2.2.2.2.2.2.2, ⟨(HS.mu 2 rfl), (HS.mu 3 rfl), (HS.mu 4 rfl), trivial⟩⟩, ?_⟩
       refine WD.storeS 14 HS 0 rfl rfl rfl rfl (oneL rfl) (by kernel_rfl) (ble_ rfl) (cs' := #[.slice A305 t302.1.f0.length c306, .slice A309 t302.1.f1.length c310]) (by kernel_rfl) (fun w327 HS => ?_)
       dsimp only [List.set] at HS
       refine ⟨⟨HS.nowO, HS.nowN.2.2.2.2.2.2.2, ⟨(HS.mu 2 rfl), (HS.mu 3 rfl), (HS.mu 4 rfl), trivial⟩⟩, ?_⟩
       refine WD.storeS 15 HS 1 rfl rfl rfl rfl (oneL rfl) (by kernel_rfl) (ble_ rfl) (cs' := #[.slice A313 t302.2.1.f0.length c314, vi t302.2.1.f1]) (by kernel_rfl) (fun w328 HS => ?_)
       exact by (
       dsimp only [List.set] at HS
       refine ⟨⟨HS.nowO, HS.nowN.2.2.2.2.2.2.2, ⟨(HS.mu 2 rfl), (HS.mu 3 rfl), (HS.mu 4 rfl), trivial⟩⟩, ?_⟩
       refine dp_ 16 (fun _ => Run.assign rfl rfl) ?_
       exact dd_ (wv_ iq X290 ⟨b325, b323, t302, A294, t291, c295, A298, c299, A305, c306, A309, c310, A313, c314, rfl, H, le307, le311, le315, le296, le300, (St.front (St.front (St.front (St.front (St.front (St.front (St.front HS 6 rfl) 6 rfl) 6 rfl) 6 rfl) 6 rfl) 5 rfl) 6 rfl)⟩) ))))
   · have HT_ := True.intro
     refine WDo.alloc (v := .agg #[sn, sn]) (cs := #[sn, sn]) 12 (w_none rfl) HS rfl (by kernel_rfl) rfl (fun b329 w330 hb329 HS => ?_)
     refine ⟨⟨HS.nowO, HS.nowN.2.2.2.2, ⟨(HS.mu 1 rfl), (HS.mu 2 rfl), (HS.mu 3 rfl), trivial⟩⟩, ?_⟩
     refine two__ 7 13 ?_ ?_
     · have HT_ := True.intro
       exact by (
       obtain ⟨t331, ha332, H⟩ := bind_some H
       refine dco_ 7 (w_none rfl) func46 (spec_AddCell.runs k64 (⟨xs46, xs50⟩ : S58) A47 c48 A51 c52 (xs40.getD t92.1.toNat o67) A285 c286 t291.1 A294 c295 A298 c299 t331.1 t331.2.1 t331.2.2 _ (HS.getN 5 rfl) le49 (HS.getN 4 rfl) le53 (HS.getN 2 rfl) le288 (HS.getN 0 rfl) le296 (HS.getN 1 rfl) le300 ha332) ?_
       clear ha332
       rintro _ w333 ⟨A334, c335, A338, c339, A342, c343, rfl, le336, hf337, le340, hf341, le344, hf345, hb⟩
       replace HS := HS.newNs hb (foot_cons hf337 (foot_cons hf341 (foot_cons hf345 foot_nil)))
       refine ⟨⟨HS.nowO, HS.nowN.2.2.2.2.2.2.2, ⟨(HS.mu 1 rfl), (HS.mu 2 rfl), (HS.mu 3 rfl), trivial⟩⟩, _, rfl, ?_⟩
       clear hb
       refine dm_ 8 ?_
       exact by (
       refine dp_ 9 (fun _ => Run.extract rfl rfl rfl) ?_
       refine dp_ 10 (fun _ => Run.extract rfl rfl rfl) ?_
       refine dp_ 11 (fun _ => Run.extract rfl rfl rfl) ?_
       refine WD.alloc (v := .agg #[sn, vi 0]) (cs := #[sn, vi 0]) 13 (w_none rfl) HS rfl (by kernel_rfl) rfl (fun b346 w347 hb346 HS => ?_)
       refine ⟨⟨HS.nowO, HS.nowN.2.2.2.2.2.2.2, ⟨(HS.mu 2 rfl), (HS.mu 3 rfl), (HS.mu 4 rfl), trivial⟩⟩, ?_⟩
       refine WD.storeS 14 HS 1 rfl rfl rfl rfl (oneL rfl) (by kernel_rfl) (ble_ rfl) (cs' := #[.slice A334 t331.1.f0.length c335, .slice A338 t331.1.f1.length c339]) (by kernel_rfl) (fun w348 HS => ?_)
       dsimp only [List.set] at HS
       refine ⟨⟨HS.nowO, HS.nowN.2.2.2.2.2.2.2, ⟨(HS.mu 2 rfl), (HS.mu 3 rfl), (HS.mu 4 rfl), trivial⟩⟩, ?_⟩
       exact by (
       refine WD.storeS 15 HS 0 rfl rfl rfl rfl (oneL rfl) (by kernel_rfl) (ble_ rfl) (cs' := #[.slice A342 t331.2.1.f0.length c343, vi t331.2.1.f1]) (by kernel_rfl) (fun w349 HS => ?_)
       dsimp only [List.set] at HS
       refine ⟨⟨HS.nowO, HS.nowN.2.2.2.2.2.2.2, ⟨(HS.mu 2 rfl), (HS.mu 3 rfl), (HS.mu 4 rfl), trivial⟩⟩, ?_⟩
       refine dp_ 16 (fun _ => Run.assign rfl rfl) ?_
       exact dd_ (wv_ iq X290 ⟨b329, b346, t331, A294, t291, c295, A298, c299, A334, c335, A338, c339, A342, c343, rfl, H, le336, le340, le344, le296, le300, HS⟩) )))
     · have HT_ := True.intro
       refine WDo.alloc (v := .agg #[sn, vi 0]) (cs := #[sn, vi 0]) 13 (w_none rfl) HS rfl (by kernel_rfl) rfl (fun b350 w351 hb350 HS => ?_)
       refine ⟨⟨HS.nowO, HS.nowN.2.2.2.2, ⟨(HS.mu 2 rfl), (HS.mu 3 rfl), (HS.mu 4 rfl), trivial⟩⟩, ?_⟩
       exact by (
       obtain ⟨t352, ha353, H⟩ := bind_some H
       refine dc_ 7 (w_none rfl) func46 (spec_AddCell.runs k64 (⟨xs46, xs50⟩ : S58) A47 c48 A51 c52 (xs40.getD t92.1.toNat o67) A285 c286 t291.1 A294 c295 A298 c299 t352.1 t352.2.1 t352.2.2 _ (HS.getN 5 rfl) le49 (HS.getN 4 rfl) le53 (HS.getN 2 rfl) le288 (HS.getN 0 rfl) le296 (HS.getN 1 rfl) le300 ha353) ?_
       clear ha353
       rintro _ w354 ⟨A355, c356, A359, c360, A363, c364, rfl, le357, hf358, le361, hf362, le365, hf366, hb⟩
       replace HS := HS.newNs hb (foot_cons hf358 (foot_cons hf362 (foot_cons hf366 foot_nil)))
       refine ⟨⟨HS.nowO, HS.nowN.2.2.2.2.2.2.2, ⟨(HS.mu 2 rfl), (HS.mu 3 rfl), (HS.mu 4 rfl), trivial⟩⟩, _, rfl, ?_⟩
       clear hb
       refine dm_ 8 ?_
       exact by (
       refine dp_ 9 (fun _ => Run.extract rfl rfl rfl) ?_
       refine dp_ 10 (fun _ => Run.extract rfl rfl rfl) ?_
       refine dp_ 11 (fun _ => Run.extract rfl rfl rfl) ?_
       refine WD.storeS 14 HS 1 rfl rfl rfl rfl (oneL rfl) (by kernel_rfl) (ble_ rfl) (cs' := #[.slice A355 t352.1.f0.length c356, .slice A359 t352.1.f1.length c360]) (by kernel_rfl) (fun w367 HS => ?_)
       dsimp only [List.set] at HS
       refine ⟨⟨HS.nowO, HS.nowN.2.2.2.2.2.2.2, ⟨(HS.mu 2 rfl), (HS.mu 3 rfl), (HS.mu 4 rfl), trivial⟩⟩, ?_⟩
       refine WD.storeS 15 HS 0 rfl rfl rfl rfl (oneL rfl) (by kernel_rfl) (ble_ rfl) (cs' := #[.slice A363 t352.2.1.f0.length c364, vi t352.2.1.f1]) (by kernel_rfl) (fun w368 HS => ?_)
       dsimp only [List.set] at HS
       exact by (
       refine ⟨⟨HS.nowO, HS.nowN.2.2.2.2.2.2.2, ⟨(HS.mu 2 rfl), (HS.mu 3 rfl), (HS.mu 4 rfl), trivial⟩⟩, ?_⟩
       refine dp_ 16 (fun _ => Run.assign rfl rfl) ?_
       exact dd_ (wv_ iq X290 ⟨b329, b350, t352, A294, t291, c295, A298, c299, A355, c356, A359, c360, A363, c364, rfl, H, le357, le361, le365, le296, le300, HS⟩) )))
   · have HT_ := True.intro
     refine WDo.alloc (v := .agg #[sn, vi 0]) (cs := #[sn, vi 0]) 13 (w_none rfl) HS rfl (by kernel_rfl) rfl (fun b369 w370 hb369 HS => ?_)
     refine ⟨⟨HS.nowO, HS.nowN.2.2.2.2, ⟨(HS.mu 1 rfl), (HS.mu 2 rfl), (HS.mu 3 rfl), trivial⟩⟩, ?_⟩
     refine two__ 7 12 ?_ ?_
     · have HT_ := True.intro
       exact by (
       obtain ⟨t371, ha372, H⟩ := bind_some H
       refine dco_ 7 (w_none rfl) func46 (spec_AddCell.runs k64 (⟨xs46, xs50⟩ : S58) A47 c48 A51 c52 (xs40.getD t92.1.toNat o67) A285 c286 t291.1 A294 c295 A298 c299 t371.1 t371.2.1 t371.2.2 _ (HS.getN 5 rfl) le49 (HS.getN 4 rfl) le53 (HS.getN 2 rfl) le288 (HS.getN 0 rfl) le296 (HS.getN 1 rfl) le300 ha372) ?_
       clear ha372
       rintro _ w373 ⟨A374, c375, A378, c379, A382, c383, rfl, le376, hf377, le380, hf381, le384, hf385, hb⟩
       replace HS := HS.newNs hb (foot_cons hf377 (foot_cons hf381 (foot_cons hf385 foot_nil)))
       refine ⟨⟨HS.nowO, HS.nowN.2.2.2.2.2.2.2, ⟨(HS.mu 1 rfl), (HS.mu 2 rfl), (HS.mu 3 rfl), trivial⟩⟩, _, rfl, ?_⟩
       clear hb
       refine dm_ 8 ?_
       exact by (
       refine dp_ 9 (fun _ => Run.extract rfl rfl rfl) ?_
       refine dp_ 10 (fun _ => Run.extract rfl rfl rfl) ?_
       refine dp_ 11 (fun _ => Run.extract rfl rfl rfl) ?_
       refine WD.alloc (v := .agg #[sn, sn]) (cs := #[sn, sn]) 12 (w_none rfl) HS rfl (by kernel_rfl) rfl (fun b386 w387 hb386 HS => ?_)
       refine ⟨⟨HS.nowO, HS.nowN.2.2.2.2.2.2.2, ⟨(HS.mu 2 rfl), (HS.mu 3 rfl), (HS.mu 4 rfl), trivial⟩⟩, ?_⟩
       refine WD.storeS 14 HS 0 rfl rfl rfl rfl (oneL rfl) (by kernel_rfl) (ble_ rfl) (cs' := #[.slice A374 t371.1.f0.length c375, .slice A378 t371.1.f1.length c379]) (by kernel_rfl) (fun w388 HS => ?_)
       dsimp only [List.set] at HS
       refine ⟨⟨HS.nowO, HS.nowN.2.2.2.2.2.2.2, ⟨(HS.mu 2 rfl), (HS.mu 3 rfl), (HS.mu 4 rfl), trivial⟩⟩, ?_⟩
       exact by (
       refine WD.storeS 15 HS 1 rfl rfl rfl rfl (oneL rfl) (by kernel_rfl) (ble_ rfl) (cs' := #[.slice A382 t371.2.1.f0.length c383, vi t371.2.1.f1]) (by kernel_rfl) (fun w389 HS => ?_)
       dsimp only [List.set] at HS
       refine ⟨⟨HS.nowO, HS.nowN.2.2.2.2.2.2.2, ⟨(HS.mu 2 rfl), (HS.mu 3 rfl), (HS.mu 4 rfl), trivial⟩⟩, ?_⟩
       refine dp_ 16 (fun _ => Run.assign rfl rfl) ?_
       exact dd_ (wv_ iq X290 ⟨b386, b369, t371, A294, t291, c295, A298, c299, A374, c375, A378, c379, A382, c383, rfl, H, le376, le380, le384, le296, le300, (St.front (St.front (St.front (St.front (St.front (St.front (St.front HS 6 rfl) 6 rfl) 6 rfl) 6 rfl) 6 rfl) 5 rfl) 6 rfl)⟩) )))
     · have HT_ := True.intro
       refine WDo.alloc (v := .agg #[sn, sn]) (cs := #[sn, sn]) 12 (w_none rfl) HS rfl (by kernel_rfl) rfl (fun b390 w391 hb390 HS => ?_)
       refine ⟨⟨HS.nowO, HS.nowN.2.2.2.2, ⟨(HS.mu 2 rfl), (HS.mu 3 rfl), (HS.mu 4 rfl), trivial⟩⟩, ?_⟩
       exact by (
       obtain ⟨t392, ha393, H⟩ := bind_some H
       refine dc_ 7 (w_none rfl) func46 (spec_AddCell.runs k64 (⟨xs46, xs50⟩ : S58) A47 c48 A51 c52 (xs40.getD t92.1.toNat o67) A285 c286 t291.1 A294 c295 A298 c299 t392.1 t392.2.1 t392.2.2 _ (HS.getN 5 rfl) le49 (HS.getN 4 rfl) le53 (HS.getN 2 rfl) le288 (HS.getN 0 rfl) le296 (HS.getN 1 rfl) le300 ha393) ?_
       clear ha393
       rintro _ w394 ⟨A395, c396, A399, c400, A403, c404, rfl, le397, hf398, le401, hf402, le405, hf406, hb⟩
       replace HS := HS.newNs hb (foot_cons hf398 (foot_cons hf402 (foot_cons hf406 foot_nil)))
       refine ⟨⟨HS.nowO, HS.nowN.2.2.2.2.2.2.2, ⟨(HS.mu 2 rfl), (HS.mu 3 rfl), (HS.mu 4 rfl), trivial⟩⟩, _, rfl, ?_⟩
       clear hb
       refine dm_ 8 ?_
       exact by (
       refine dp_ 9 (fun _ => Run.extract rfl rfl rfl) ?_
       refine dp_ 10 (fun _ => Run.extract rfl rfl rfl) ?_
       refine dp_ 11 (fun _ => Run.extract rfl rfl rfl) ?_
       refine WD.storeS 14 HS 0 rfl rfl rfl rfl (oneL rfl) (by kernel_rfl) (ble_ rfl) (cs' := #[.slice A395 t392.1.f0.length c396, .slice A399 t392.1.f1.length c400]) (by kernel_rfl) (fun w407 HS => ?_)
       dsimp only [List.set] at HS
       refine ⟨⟨HS.nowO, HS.nowN.2.2.2.2.2.2.2, ⟨(HS.mu 2 rfl), (HS.mu 3 rfl), (HS.mu 4 rfl), trivial⟩⟩, ?_⟩
       refine WD.storeS 15 HS 1 rfl rfl rfl rfl (oneL rfl) (by kernel_rfl) (ble_ rfl) (cs' := #[.slice A403 t392.2.1.f0.length c404, vi t392.2.1.f1]) (by kernel_rfl) (fun w408 HS => ?_)
       dsimp only [List.set] at HS
       exact by (
       refine ⟨⟨HS.nowO, HS.nowN.2.2.2.2.2.2.2, ⟨(HS.mu 2 rfl), (HS.mu 3 rfl), (HS.mu 4 rfl), trivial⟩⟩, ?_⟩
       refine dp_ 16 (fun _ => Run.assign rfl rfl) ?_
       exact dd_ (wv_ iq X290 ⟨b390, b369, t392, A294, t291, c295, A298, c299, A395, c396, A399, c400, A403, c404, rfl, H, le397, le401, le405, le296, le300, (St.front (St.front (St.front (St.front (St.front (St.front (St.front HS 6 rfl) 6 rfl) 6 rfl) 6 rfl) 6 rfl) 5 rfl) 6 rfl)⟩) ))))
 · have HT_ := True.intro
   refine WDo.alloc (v := .agg #[sn, sn]) (cs := #[sn, sn]) 12 (w_none rfl) HS rfl (by kernel_rfl) rfl (fun b409 w410 hb409 HS => ?_)
   refine ⟨⟨HS.nowO, HS.nowN.2.2, ⟨(HS.mu 1 rfl), (HS.mu 2 rfl), (HS.mu 3 rfl), trivial⟩⟩, ?_⟩
   refine two__ 6 13 ?_ ?_
   · have HT_ := True.intro
     exact by (
     obtain ⟨t411, ha412, H⟩ := bind_some H
     refine dco_ 6 (w_none rfl) func103 (spec_l15Small.runs k64 b0 (⟨x0.f0, t96.2.f1, t96.2.f2⟩ : S146) A0_0 c0_0 _ t411.1 t411.2 _ _ HS.b (HS.nodupM 4 rfl) (HS.boundM 4 rfl) (HS.footOM 4 rfl 1 rfl) hc0_0 (HS.mu 4 rfl) ha412) ?_
     clear ha412
     rintro _ w413 ⟨A414, c415, A418, c419, rfl, le416, hf417, le420, hf421, hbx_, hrest_, hB1_⟩
     replace HS := HS.newM 4 rfl hB1_ hrest_ hbx_ (foot_cons hf417 (foot_cons hf421 foot_nil))
     dsimp only [List.set] at HS
     clear hB1_ hrest_ hbx_
     refine ⟨⟨HS.nowO, HS.nowN.2.2.2.2, ⟨(HS.mu 1 rfl), (HS.mu 2 rfl), (HS.mu 3 rfl), trivial⟩⟩, _, rfl, ?_⟩
     exact by (
     refine two__ 7 13 ?_ ?_
     · have HT_ := True.intro
       obtain ⟨t422, ha423, H⟩ := bind_some H
       refine dco_ 7 (w_none rfl) func46 (spec_AddCell.runs k64 (⟨xs46, xs50⟩ : S58) A47 c48 A51 c52 (xs40.getD t92.1.toNat o67) A285 c286 t411.1 A414 c415 A418 c419 t422.1 t422.2.1 t422.2.2 _ (HS.getN 5 rfl) le49 (HS.getN 4 rfl) le53 (HS.getN 2 rfl) le288 (HS.getN 0 rfl) le416 (HS.getN 1 rfl) le420 ha423) ?_
       clear ha423
       rintro _ w424 ⟨A425, c426, A429, c430, A433, c434, rfl, le427, hf428, le431, hf432, le435, hf436, hb⟩
       replace HS := HS.newNs hb (foot_cons hf428 (foot_cons hf432 (foot_cons hf436 foot_nil)))
       refine ⟨⟨HS.nowO, HS.nowN.2.2.2.2.2.2.2, ⟨(HS.mu 1 rfl), (HS.mu 2 rfl), (HS.mu 3 rfl), trivial⟩⟩, _, rfl, ?_⟩
       exact by (
       clear hb
       refine dm_ 8 ?_
       refine dp_ 9 (fun _ => Run.extract rfl rfl rfl) ?_
       refine dp_ 10 (fun _ => Run.extract rfl rfl rfl) ?_
       refine dp_ 11 (fun _ => Run.extract rfl rfl rfl) ?_
       refine WD.alloc (v := .agg #[sn, vi 0]) (cs := #[sn, vi 0]) 13 (w_none rfl) HS rfl (by kernel_rfl) rfl (fun b437 w438 hb437 HS => ?_)
       refine ⟨⟨HS.nowO, HS.nowN.2.2.2.2.2.2.2, ⟨(HS.mu 2 rfl), (HS.mu 3 rfl), (HS.mu 4 rfl), trivial⟩⟩, ?_⟩
       refine WD.storeS 14 HS 1 rfl rfl rfl rfl (oneL rfl) (by kernel_rfl) (ble_ rfl) (cs' := #[.slice A425 t422.1.f0.length c426, .slice A429 t422.1.f1.length c430]) (by kernel_rfl) (fun w439 HS => ?_)
       exact by (
       dsimp only [List.set] at HS
       refine ⟨⟨HS.nowO, HS.nowN.2.2.2.2.2.2.2, ⟨(HS.mu 2 rfl), (HS.mu 3 rfl), (HS.mu 4 rfl), trivial⟩⟩, ?_⟩
       refine WD.storeS 15 HS 0 rfl rfl rfl rfl (oneL rfl) (by kernel_rfl) (ble_ rfl) (cs' := #[.slice A433 t422.2.1.f0.length c434, vi t422.2.1.f1]) (by kernel_rfl) (fun w440 HS => ?_)
       dsimp only [List.set] at HS
       refine ⟨⟨HS.nowO, HS.nowN.2.2.2.2.2.2.2, ⟨(HS.mu 2 rfl), (HS.mu 3 rfl), (HS.mu 4 rfl), trivial⟩⟩, ?_⟩
       refine dp_ 16 (fun _ => Run.assign rfl rfl) ?_
       exact dd_ (wv_ iq X290 ⟨b409, b437, t422, A414, t411, c415, A418, c419, A425, c426, A429, c430, A433, c434, rfl, H, le427, le431, le435, le416, le420, HS⟩) ))
     · have HT_ := True.intro
       exact by (
       refine WDo.alloc (v := .agg #[sn, vi 0]) (cs := #[sn, vi 0]) 13 (w_none rfl) HS rfl (by kernel_rfl) rfl (fun b441 w442 hb441 HS => ?_)
       refine ⟨⟨HS.nowO, HS.nowN.2.2.2.2, ⟨(HS.mu 2 rfl), (HS.mu 3 rfl), (HS.mu 4 rfl), trivial⟩⟩, ?_⟩
       obtain ⟨t443, ha444, H⟩ := bind_some H
       refine dc_ 7 (w_none rfl) func46 (spec_AddCell.runs k64 (⟨xs46, xs50⟩ : S58) A47 c48 A51 c52 (xs40.getD t92.1.toNat o67) A285 c286 t411.1 A414 c415 A418 c419 t443.1 t443.2.1 t443.2.2 _ (HS.getN 5 rfl) le49 (HS.getN 4 rfl) le53 (HS.getN 2 rfl) le288 (HS.getN 0 rfl) le416 (HS.getN 1 rfl) le420 ha444) ?_
       clear ha444
       rintro _ w445 ⟨A446, c447, A450, c451, A454, c455, rfl, le448, hf449, le452, hf453, le456, hf457, hb⟩
       replace HS := HS.newNs hb (foot_cons hf449 (foot_cons hf453 (foot_cons hf457 foot_nil)))
       refine ⟨⟨HS.nowO, HS.nowN.2.2.2.2.2.2.2, ⟨(HS.mu 2 rfl), (HS.mu 3 rfl), (HS.mu 4 rfl), trivial⟩⟩, _, rfl, ?_⟩
       exact by (
       clear hb
       refine dm_ 8 ?_
       refine dp_ 9 (fun _ => Run.extract rfl rfl rfl) ?_
       refine dp_ 10 (fun _ => Run.extract rfl rfl rfl) ?_
       refine dp_ 11 (fun _ => Run.extract rfl rfl rfl) ?_
       refine WD.storeS 14 HS 1 rfl rfl rfl rfl (oneL rfl) (by kernel_rfl) (ble_ rfl) (cs' := #[.slice A446 t443.1.f0.length c447, .slice A450 t443.1.f1.length c451]) (by kernel_rfl) (fun w458 HS => ?_)
       dsimp only [List.set] at HS
       refine ⟨⟨HS.nowO, HS.nowN.2.2.2.2.2.2.2, ⟨(HS.mu 2 rfl), (HS.mu 3 rfl), (HS.mu 4 rfl), trivial⟩⟩, ?_⟩
       exact by (
       refine WD.storeS 15 HS 0 rfl rfl rfl rfl (oneL rfl) (by kernel_rfl) (ble_ rfl) (cs' := #[.slice A454 t443.2.1.f0.length c455, vi t443.2.1.f1]) (by kernel_rfl) (fun w459 HS => ?_)
       dsimp only [List.set] at HS
       refine ⟨⟨HS.nowO, HS.nowN.2.2.2.2.2.2.2, ⟨(HS.mu 2 rfl), (HS.mu 3 rfl), (HS.mu 4 rfl), trivial⟩⟩, ?_⟩
       refine dp_ 16 (fun _ => Run.assign rfl rfl) ?_
       exact dd_ (wv_ iq X290 ⟨b409, b441, t443, A414, t411, c415, A418, c419, A446, c447, A450, c451, A454, c455, rfl, H, le448, le452, le456, le416, le420, HS⟩) )))))
   · have HT_ := True.intro
     refine WDo.alloc (v := .agg #[sn, vi 0]) (cs := #[sn, vi 0]) 13 (w_none rfl) HS rfl (by kernel_rfl) rfl (fun b460 w461 hb460 HS => ?_)
     refine ⟨⟨HS.nowO, HS.nowN.2.2, ⟨(HS.mu 2 rfl), (HS.mu 3 rfl), (HS.mu 4 rfl), trivial⟩⟩, ?_⟩
     exact by (
     obtain ⟨t462, ha463, H⟩ := bind_some H
     refine dc_ 6 (w_none rfl) func103 (spec_l15Small.runs k64 b0 (⟨x0.f0, t96.2.f1, t96.2.f2⟩ : S146) A0_0 c0_0 _ t462.1 t462.2 _ _ HS.b (HS.nodupM 5 rfl) (HS.boundM 5 rfl) (HS.footOM 5 rfl 1 rfl) hc0_0 (HS.mu 5 rfl) ha463) ?_
     clear ha463
     rintro _ w464 ⟨A465, c466, A469, c470, rfl, le467, hf468, le471, hf472, hbx_, hrest_, hB1_⟩
     replace HS := HS.newM 5 rfl hB1_ hrest_ hbx_ (foot_cons hf468 (foot_cons hf472 foot_nil))
     dsimp only [List.set] at HS
     clear hB1_ hrest_ hbx_
     refine ⟨⟨HS.nowO, HS.nowN.2.2.2.2, ⟨(HS.mu 2 rfl), (HS.mu 3 rfl), (HS.mu 4 rfl), trivial⟩⟩, _, rfl, ?_⟩
     exact by (
     obtain ⟨t473, ha474, H⟩ := bind_some H
     refine dc_ 7 (w_none rfl) func46 (spec_AddCell.runs k64 (⟨xs46, xs50⟩ : S58) A47 c48 A51 c52 (xs40.getD t92.1.toNat o67) A285 c286 t462.1 A465 c466 A469 c470 t473.1 t473.2.1 t473.2.2 _ (HS.getN 5 rfl) le49 (HS.getN 4 rfl) le53 (HS.getN 2 rfl) le288 (HS.getN 0 rfl) le467 (HS.getN 1 rfl) le471 ha474) ?_
     clear ha474
     rintro _ w475 ⟨A476, c477, A480, c481, A484, c485, rfl, le478, hf479, le482, hf483, le486, hf487, hb⟩
     replace HS := HS.newNs hb (foot_cons hf479 (foot_cons hf483 (foot_cons hf487 foot_nil)))
     refine ⟨⟨HS.nowO, HS.nowN.2.2.2.2.2.2.2, ⟨(HS.mu 2 rfl), (HS.mu 3 rfl), (HS.mu 4 rfl), trivial⟩⟩, _, rfl, ?_⟩
     clear hb
     refine dm_ 8 ?_
     exact by (
     refine dp_ 9 (fun _ => Run.extract rfl rfl rfl) ?_
     refine dp_ 10 (fun _ => Run.extract rfl rfl rfl) ?_
     refine dp_ 11 (fun _ => Run.extract rfl rfl rfl) ?_
     refine WD.storeS 14 HS 1 rfl rfl rfl rfl (oneL rfl) (by kernel_rfl) (ble_ rfl) (cs' := #[.slice A476 t473.1.f0.length c477, .slice A480 t473.1.f1.length c481]) (by kernel_rfl) (fun w488 HS => ?_)
     dsimp only [List.set] at HS
     refine ⟨⟨HS.nowO, HS.nowN.2.2.2.2.2.2.2, ⟨(HS.mu 2 rfl), (HS.mu 3 rfl), (HS.mu 4 rfl), trivial⟩⟩, ?_⟩
     refine WD.storeS 15 HS 0 rfl rfl rfl rfl (oneL rfl) (by kernel_rfl) (ble_ rfl) (cs' := #[.slice A484 t473.2.1.f0.length c485, vi t473.2.1.f1]) (by kernel_rfl) (fun w489 HS => ?_)
     dsimp only [List.set] at HS
     exact by (
     refine ⟨⟨HS.nowO, HS.nowN.2.2.2.2.2.2.2, ⟨(HS.mu 2 rfl), (HS.mu 3 rfl), (HS.mu 4 rfl), trivial⟩⟩, ?_⟩
     refine dp_ 16 (fun _ => Run.assign rfl rfl) ?_
     exact dd_ (wv_ iq X290 ⟨b409, b460, t473, A465, t462, c466, A469, c470, A476, c477, A480, c481, A484, c485, rfl, H, le478, le482, le486, le467, le471, HS⟩) ))))
 · have HT_ := True.intro
   refine WDo.alloc (v := .agg #[sn, vi 0]) (cs := #[sn, vi 0]) 13 (w_none rfl) HS rfl (by kernel_rfl) rfl (fun b490 w491 hb490 HS => ?_)
   refine ⟨⟨HS.nowO, HS.nowN.2.2, ⟨(HS.mu 1 rfl), (HS.mu 2 rfl), (HS.mu 3 rfl), trivial⟩⟩, ?_⟩
   refine two__ 6 12 ?_ ?_
   · have HT_ := True.intro
     exact by (
     obtain ⟨t492, ha493, H⟩ := bind_some H
     refine dco_ 6 (w_none rfl) func103 (spec_l15Small.runs k64 b0 (⟨x0.f0, t96.2.f1, t96.2.f2⟩ : S146) A0_0 c0_0 _ t492.1 t492.2 _ _ HS.b (HS.nodupM 4 rfl) (HS.boundM 4 rfl) (HS.footOM 4 rfl 1 rfl) hc0_0 (HS.mu 4 rfl) ha493) ?_
     clear ha493
     rintro _ w494 ⟨A495, c496, A499, c500, rfl, le497, hf498, le501, hf502, hbx_, hrest_, hB1_⟩
     replace HS := HS.newM 4 rfl hB1_ hrest_ hbx_ (foot_cons hf498 (foot_cons hf502 foot_nil))
     dsimp only [List.set] at HS
     clear hB1_ hrest_ hbx_
     refine ⟨⟨HS.nowO, HS.nowN.2.2.2.2, ⟨(HS.mu 1 rfl), (HS.mu 2 rfl), (HS.mu 3 rfl), trivial⟩⟩, _, rfl, ?_⟩
     exact by (
     refine two__ 7 12 ?_ ?_
     · have HT_ := True.intro
       obtain ⟨t503, ha504, H⟩ := bind_some H
       refine dco_ 7 (w_none rfl) func46 (spec_AddCell.runs k64 (⟨xs46, xs50⟩ : S58) A47 c48 A51 c52 (xs40.getD t92.1.toNat o67) A285 c286 t492.1 A495 c496 A499 c500 t503.1 t503.2.1 t503.2.2 _ (HS.getN 5 rfl) le49 (HS.getN 4 rfl) le53 (HS.getN 2 rfl) le288 (HS.getN 0 rfl) le497 (HS.getN 1 rfl) le501 ha504) ?_
       clear ha504
       rintro _ w505 ⟨A506, c507, A510, c511, A514, c515, rfl, le508, hf509, le512, hf513, le516, hf517, hb⟩
       replace HS := HS.newNs hb (foot_cons hf509 (foot_cons hf513 (foot_cons hf517 foot_nil)))
       refine ⟨⟨HS.nowO, HS.nowN.2.2.2.2.2.2.2, ⟨(HS.mu 1 rfl), (HS.mu 2 rfl), (HS.mu 3 rfl), trivial⟩⟩, _, rfl, ?_⟩
       exact by (
       clear hb
       refine dm_ 8 ?_
       refine dp_ 9 (fun _ => Run.extract rfl rfl rfl) ?_
       refine dp_ 10 (fun _ => Run.extract rfl rfl rfl) ?_
       refine dp_ 11 (fun _ => Run.extract rfl rfl rfl) ?_
       refine WD.alloc (v := .agg #[sn, sn]) (cs := #[sn, sn]) 12 (w_none rfl) HS rfl (by kernel_rfl) rfl (fun b518 w519 hb518 HS => ?_)
       refine ⟨⟨HS.nowO, HS.nowN.2.2.2.2.2.2.2, ⟨(HS.mu 2 rfl), (HS.mu 3 rfl), (HS.mu 4 rfl), trivial⟩⟩, ?_⟩
       refine WD.storeS 14 HS 0 rfl rfl rfl rfl (oneL rfl) (by kernel_rfl) (ble_ rfl) (cs' := #[.slice A506 t503.1.f0.length c507, .slice A510 t503.1.f1.length c511]) (by kernel_rfl) (fun w520 HS => ?_)
       exact by (
       dsimp only [List.set] at HS
       refine ⟨⟨HS.nowO, HS.nowN.2.2.2.2.2.2.2, ⟨(HS.mu 2 rfl), (HS.mu 3 rfl), (HS.mu 4 rfl), trivial⟩⟩, ?_⟩
       refine WD.storeS 15 HS 1 rfl rfl rfl rfl (oneL rfl) (by kernel_rfl) (ble_ rfl) (cs' := #[.slice A514 t503.2.1.f0.length c515, vi t503.2.1.f1]) (by kernel_rfl) (fun w521 HS => ?_)
       dsimp only [List.set] at HS
       refine ⟨⟨HS.nowO, HS.nowN.2.2.2.2.2.2.2, ⟨(HS.mu 2 rfl), (HS.mu 3 rfl), (HS.mu 4 rfl), trivial⟩⟩, ?_⟩
       refine dp_ 16 (fun _ => Run.assign rfl rfl) ?_
       exact dd_ (wv_ iq X290 ⟨b518, b490, t503, A495, t492, c496, A499, c500, A506, c507, A510, c511, A514, c515, rfl, H, le508, le512, le516, le497, le501, (St.front (St.front (St.front (St.front (St.front (St.front (St.front HS 6 rfl) 6 rfl) 6 rfl) 6 rfl) 6 rfl) 5 rfl) 6 rfl)⟩) ))
     · have HT_ := True.intro
       exact by (
       refine WDo.alloc (v := .agg #[sn, sn]) (cs := #[sn, sn]) 12 (w_none rfl) HS rfl (by kernel_rfl) rfl (fun b522 w523 hb522 HS => ?_)
       refine ⟨⟨HS.nowO, HS.nowN.2.2.2.2, ⟨(HS.mu 2 rfl), (HS.mu 3 rfl), (HS.mu 4 rfl), trivial⟩⟩, ?_⟩
       obtain ⟨t524, ha525, H⟩ := bind_some H
       refine dc_ 7 (w_none rfl) func46 (spec_AddCell.runs k64 (⟨xs46, xs50⟩ : S58) A47 c48 A51 c52 (xs40.getD t92.1.toNat o67) A285 c286 t492.1 A495 c496 A499 c500 t524.1 t524.2.1 t524.2.2 _ (HS.getN 5 rfl) le49 (HS.getN 4 rfl) le53 (HS.getN 2 rfl) le288 (HS.getN 0 rfl) le497 (HS.getN 1 rfl) le501 ha525) ?_
       clear ha525
       rintro _ w526 ⟨A527, c528, A531, c532, A535, c536, rfl, le529, hf530, le533, hf534, le537, hf538, hb⟩
       replace HS := HS.newNs hb (foot_cons hf530 (foot_cons hf534 (foot_cons hf538 foot_nil)))
       refine ⟨⟨HS.nowO, HS.nowN.2.2.2.2.2.2.2, ⟨(HS.mu 2 rfl), (HS.mu 3 rfl), (HS.mu 4 rfl), trivial⟩⟩, _, rfl, ?_⟩
       exact by (
       clear hb
       refine dm_ 8 ?_
       refine dp_ 9 (fun _ => Run.extract rfl rfl rfl) ?_
       refine dp_ 10 (fun _ => Run.extract rfl rfl rfl) ?_
       refine dp_ 11 (fun _ => Run.extract rfl rfl rfl) ?_
       refine WD.storeS 14 HS 0 rfl rfl rfl rfl (oneL rfl) (by kernel_rfl) (ble_ rfl) (cs' := #[.slice A527 t524.1.f0.length c528, .slice A531 t524.1.f1.length c532]) (by kernel_rfl) (fun w539 HS => ?_)
       dsimp only [List.set] at HS
       refine ⟨⟨HS.nowO, HS.nowN.2.2.2.2.2.2.2, ⟨(HS.mu 2 rfl), (HS.mu 3 rfl), (HS.mu 4 rfl), trivial⟩⟩, ?_⟩
       exact by (
       refine WD.storeS 15 HS 1 rfl rfl rfl rfl (oneL rfl) (by kernel_rfl) (ble_ rfl) (cs' := #[.slice A535 t524.2.1.f0.length c536, vi t524.2.1.f1]) (by kernel_rfl) (fun w540 HS => ?_)
       dsimp only [List.set] at HS
       refine ⟨⟨HS.nowO, HS.nowN.2.2.2.2.2.2.2, ⟨(HS.mu 2 rfl), (HS.mu 3 rfl), (HS.mu 4 rfl), trivial⟩⟩, ?_⟩
       refine dp_ 16 (fun _ => Run.assign rfl rfl) ?_
       exact dd_ (wv_ iq X290 ⟨b522, b490, t524, A495, t492, c496, A499, c500, A527, c528, A531, c532, A535, c536, rfl, H, le529, le533, le537, le497, le501, (St.front (St.front (St.front (St.front (St.front (St.front (St.front HS 6 rfl) 6 rfl) 6 rfl) 6 rfl) 6 rfl) 5 rfl) 6 rfl)⟩) )))))
   · have HT_ := True.intro
     refine WDo.alloc (v := .agg #[sn, sn]) (cs := #[sn, sn]) 12 (w_none rfl) HS rfl (by kernel_rfl) rfl (fun b541 w542 hb541 HS => ?_)
     refine ⟨⟨HS.nowO, HS.nowN.2.2, ⟨(HS.mu 2 rfl), (HS.mu 3 rfl), (HS.mu 4 rfl), trivial⟩⟩, ?_⟩
     exact by (
     obtain ⟨t543, ha544, H⟩ := bind_some H
     refine dc_ 6 (w_none rfl) func103 (spec_l15Small.runs k64 b0 (⟨x0.f0, t96.2.f1, t96.2.f2⟩ : S146) A0_0 c0_0 _ t543.1 t543.2 _ _ HS.b (HS.nodupM 5 rfl) (HS.boundM 5 rfl) (HS.footOM 5 rfl 1 rfl) hc0_0 (HS.mu 5 rfl) ha544) ?_
     clear ha544
     rintro _ w545 ⟨A546, c547, A550, c551, rfl, le548, hf549, le552, hf553, hbx_, hrest_, hB1_⟩
     replace HS := HS.newM 5 rfl hB1_ hrest_ hbx_ (foot_cons hf549 (foot_cons hf553 foot_nil))
     dsimp only [List.set] at HS
     clear hB1_ hrest_ hbx_
     refine ⟨⟨HS.nowO, HS.nowN.2.2.2.2, ⟨(HS.mu 2 rfl), (HS.mu 3 rfl), (HS.mu 4 rfl), trivial⟩⟩, _, rfl, ?_⟩
     exact by (
     obtain ⟨t554, ha555, H⟩ := bind_some H
     refine dc_ 7 (w_none rfl) func46 (spec_AddCell.runs k64 (⟨xs46, xs50⟩ : S58) A47 c48 A51 c52 (xs40.getD t92.1.toNat o67) A285 c286 t543.1 A546 c547 A550 c551 t554.1 t554.2.1 t554.2.2 _ (HS.getN 5 rfl) le49 (HS.getN 4 rfl) le53 (HS.getN 2 rfl) le288 (HS.getN 0 rfl) le548 (HS.getN 1 rfl) le552 ha555) ?_
     clear ha555
     rintro _ w556 ⟨A557, c558, A561, c562, A565, c566, rfl, le559, hf560, le563, hf564, le567, hf568, hb⟩
     replace HS := HS.newNs hb (foot_cons hf560 (foot_cons hf564 (foot_cons hf568 foot_nil)))
     refine ⟨⟨HS.nowO, HS.nowN.2.2.2.2.2.2.2, ⟨(HS.mu 2 rfl), (HS.mu 3 rfl), (HS.mu 4 rfl), trivial⟩⟩, _, rfl, ?_⟩
     clear hb
     refine dm_ 8 ?_
     exact by (
     refine dp_ 9 (fun _ => Run.extract rfl rfl rfl) ?_
     refine dp_ 10 (fun _ => Run.extract rfl rfl rfl) ?_
     refine dp_ 11 (fun _ => Run.extract rfl rfl rfl) ?_
     refine WD.storeS 14 HS 0 rfl rfl rfl rfl (oneL rfl) (by kernel_rfl) (ble_ rfl) (cs' := #[.slice A557 t554.1.f0.length c558, .slice A561 t554.1.f1.length c562]) (by kernel_rfl) (fun w569 HS => ?_)
     dsimp only [List.set] at HS
     refine ⟨⟨HS.nowO, HS.nowN.2.2.2.2.2.2.2, ⟨(HS.mu 2 rfl), (HS.mu 3 rfl), (HS.mu 4 rfl), trivial⟩⟩, ?_⟩
     refine WD.storeS 15 HS 1 rfl rfl rfl rfl (oneL rfl) (by kernel_rfl) (ble_ rfl) (cs' := #[.slice A565 t554.2.1.f0.length c566, vi t554.2.1.f1]) (by kernel_rfl) (fun w570 HS => ?_)
     dsimp only [List.set] at HS
     exact by (
     refine ⟨⟨HS.nowO, HS.nowN.2.2.2.2.2.2.2, ⟨(HS.mu 2 rfl), (HS.mu 3 rfl), (HS.mu 4 rfl), trivial⟩⟩, ?_⟩
     refine dp_ 16 (fun _ => Run.assign rfl rfl) ?_
     exact dd_ (wv_ iq X290 ⟨b541, b490, t554, A546, t543, c547, A550, c551, A557, c558, A561, c562, A565, c566, rfl, H, le559, le563, le567, le548, le552, (St.front (St.front (St.front (St.front (St.front (St.front (St.front HS 6 rfl) 6 rfl) 6 rfl) 6 rfl) 6 rfl) 5 rfl) 6 rfl)⟩) )))))))))))))))))))
def spec_DrawRightStore.g (k : Nat) (l0 : List Int) : Option (S58 × (List S67) × S62) := ((spec_l01New.g k l0).bind fun t7 => ((spec_l15Grown.g k (⟨l0, t7.f1, t7.f2⟩ : S146) (wrap64 (4 + (Int.tmod (wrap64 (Int.tdiv (l0.length : Int) 10)) 30)))).bind fun t14 => ((spec_l15Small.g k (⟨l0, t14.2.2.f1, t14.2.2.f2⟩ : S146)).bind fun t34 => (some ((⟨t14.1.f0, t14.1.f1⟩ : S58), t14.2.1, (⟨t34.1.f0, t34.1.f1⟩ : S62))))))
theorem spec_DrawRightStore.runs (k : Nat) (A0 : Option Addr) (c0 : Nat) (l0 : List Int) (r1 : S58) (r2 : List S67) (r3 : S62) (w : World) (hr0 : kU.C w A0 l0.length l0) (hc0 : l0.length ≤ c0) (H : spec_DrawRightStore.g k l0 = some (r1, r2, r3)) :
   Calls prog 43 #[.slice A0 l0.length c0] w fun e w' => ∃ (A0_0_ : Option Addr) (c0_0_ : Nat) (A0_1_ : Option Addr) (c0_1_ : Nat) (A1_ : Option Addr) (c1_ : Nat) (A2_0_ : Option Addr) (c2_0_ : Nat) (A2_1_ : Option Addr) (c2_1_ : Nat), e = .returned (.tuple #[.agg #[.slice A0_0_ r1.f0.length c0_0_, .slice A0_1_ r1.f1.length c0_1_], .slice A1_ r2.length c1_, .agg #[.slice A2_0_ r3.f0.length c2_0_, .slice A2_1_ r3.f1.length c2_1_]]) ∧ r1.f0.length ≤ c0_0_ ∧ Foot (cF kI A0_0_ r1.f0) w' (fun k_ => w.heap.size ≤ k_) ∧ r1.f1.length ≤ c0_1_ ∧ Foot (cF kS62 A0_1_ r1.f1) w' (fun k_ => w.heap.size ≤ k_) ∧ r2.length ≤ c1_ ∧ Foot (cF k67 A1_ r2) w' (fun k_ => w.heap.size ≤ k_) ∧ r3.f0.length ≤ c2_0_ ∧ Foot (cF kS149 A2_0_ r3.f0) w' (fun k_ => w.heap.size ≤ k_) ∧ r3.f1.length ≤ c2_1_ ∧ Foot (cF kS149 A2_1_ r3.f1) w' (fun k_ => w.heap.size ≤ k_) ∧ Below w.heap.size w w' := by
 unfold spec_DrawRightStore.g at H
 have HS : St (fun _ => True) w w [] [(cF kU A0 l0)] [] := St.start (foot_cons (foot_C (Kd.heap_int _) hr0) foot_nil)
 refine cw_ (n := 24) func43 fun R_ hR_ => ?_
 refine sr_ fun _ hK1 => ?_
 refine WL.alloc HS (v := .agg #[sn, sn]) (cs := #[sn, sn]) rfl rfl (by decide) rfl (by kernel_rfl) rfl (fun b2 w3 hb2 HS => ?_)
 refine as_ ?_
 refine WL.alloc HS (v := .agg #[sn, sn]) (cs := #[sn, sn]) rfl rfl (by decide) rfl (by kernel_rfl) rfl (fun b4 w5 hb4 HS => ?_)
 refine dn_ hK1 (sr_ fun _ hK6 => ?_)
 refine mv_ ?_
 obtain ⟨t7, ha8, H⟩ := bind_some H
 refine c_ func94 (spec_l01New.runs k A0 c0 l0 t7 _ (HS.getO 0 rfl) hc0 ha8) ?_
 clear ha8
 rintro _ w9 ⟨b10, rfl, hn11, hx12, hb⟩
 replace HS := HS.gotBox hb hn11 hx12
 refine ⟨_, rfl, ?_⟩
 clear hb
 refine ad_ hK6 ?_
 refine sr_ fun _ hK13 => ?_
 refine mv_ ?_
 refine mv_ ?_
 refine ln_ underlying48 ?_
 refine v_ (Run.bin rfl rfl rfl (bin_quo64 (show (10 : Int) ≠ 0 by decide))) ?_
 refine v_ (Run.bin rfl rfl rfl (bin_rem (show (30 : Int) ≠ 0 by decide))) ?_
 refine b_ bin_add64 ?_
 obtain ⟨t14, ha15, H⟩ := bind_some H
 refine c_ func102 (spec_l15Grown.runs k b10 (⟨l0, t7.f1, t7.f2⟩ : S146) A0 c0 (wrap64 (4 + (Int.tmod (wrap64 (Int.tdiv (l0.length : Int) 10)) 30))) _ t14.1 t14.2.1 t14.2.2 _ _ HS.b (HS.nodupM 0 rfl) (HS.boundM 0 rfl) (HS.footOM 0 rfl 0 rfl) hc0 (HS.mu 0 rfl) ha15) ?_
 clear ha15
 rintro _ w16 ⟨A17, c18, A21, c22, A25, c26, rfl, le19, hf20, le23, hf24, le27, hf28, hbx_, hrest_, hB1_⟩
 replace HS := HS.newM 0 rfl hB1_ hrest_ hbx_ (foot_cons hf20 (foot_cons hf24 (foot_cons hf28 foot_nil)))
 dsimp only [List.set] at HS
 clear hB1_ hrest_ hbx_
 refine ⟨_, rfl, ?_⟩
 refine mv_ ?_
 refine v_ (Run.extract rfl rfl rfl) ?_
 refine v_ (Run.extract rfl rfl rfl) ?_
 refine WL.alloc HS (v := .agg #[sn, sn]) (cs := #[sn, sn]) rfl rfl (by decide) rfl (by kernel_rfl) rfl (fun b29 w30 hb29 HS => ?_)
 refine WL.storeW HS 0 rfl rfl rfl rfl rfl rfl (oneL rfl) (by kernel_rfl) rfl (fun w31 HS => ?_)
 dsimp only [List.set] at HS
 refine ad_ hK13 ?_
 refine WC.seq fun _ hK32 => ?_
 refine WC.drawW HS [boxM b29 #[.slice A17 t14.1.f0.length c18, .slice A21 t14.1.f1.length c22] 58, boxM b4 #[sn, sn] 62] (fun _ HS => ⟨(HS.mu 0 rfl), (HS.mu 2 rfl), trivial⟩) [6] rfl rfl (fun w33 HS => ?_)
 refine dm_ 1 ?_
 refine dm_ 2 ?_
 refine dt_ 0 ⟨HS.nowO, HS.nowN, ⟨(HS.mu 0 rfl), (HS.mu 2 rfl), trivial⟩⟩ (fun w_ hw_ => Run.loadS (cs := [.slice A17 t14.1.f0.length c18, .slice A21 t14.1.f1.length c22]) rfl rfl underlying58 rfl (by kernel_rfl) (box_part hw_.2.2.1 part_all)) ?_
 obtain ⟨t34, ha35, H⟩ := bind_some H
 refine dc_ 3 (w_none rfl) func103 (spec_l15Small.runs k b10 (⟨l0, t14.2.2.f1, t14.2.2.f2⟩ : S146) A0 c0 _ t34.1 t34.2 _ _ HS.b (HS.nodupM 1 rfl) (HS.boundM 1 rfl) (HS.footOM 1 rfl 0 rfl) hc0 (HS.mu 1 rfl) ha35) ?_
 clear ha35
 rintro _ w36 ⟨A37, c38, A41, c42, rfl, le39, hf40, le43, hf44, hbx_, hrest_, hB1_⟩
 replace HS := HS.newM 1 rfl hB1_ hrest_ hbx_ (foot_cons hf40 (foot_cons hf44 foot_nil))
 dsimp only [List.set] at HS
 clear hB1_ hrest_ hbx_
 refine ⟨⟨HS.nowO, HS.nowN.2.2, ⟨(HS.mu 0 rfl), (HS.mu 2 rfl), trivial⟩⟩, _, rfl, ?_⟩
 refine WD.storeS 4 HS 3 rfl rfl rfl rfl (oneL rfl) (by kernel_rfl) (ble_ rfl) (cs' := #[.slice A17 t14.1.f0.length c18, .slice A21 t14.1.f1.length c22]) (by kernel_rfl) (fun w45 HS => ?_)
 dsimp only [List.set] at HS
 refine ⟨⟨HS.nowO, HS.nowN.2.2, ⟨(HS.mu 0 rfl), (HS.mu 2 rfl), trivial⟩⟩, ?_⟩
 refine dp_ 5 (fun _ => Run.assign rfl rfl) ?_
 refine WD.storeSL 6 HS 2 rfl rfl rfl rfl (oneL rfl) (by kernel_rfl) (ble_ rfl) (cs' := #[.slice A37 t34.1.f0.length c38, .slice A41 t34.1.f1.length c42]) (by kernel_rfl) (fun w46 HS => ?_)
 dsimp only [List.set] at HS
 refine dd_ (via_ hK32 ?_)
 obtain ⟨rfl, rfl, rfl⟩ := (by have h_ := os H; simp only [Prod.mk.injEq] at h_; exact h_)
 exact rt3 Try.f43 rfl ⟨_, rfl, resv_box (HS.mu 3 rfl) underlying58 rfl (by kernel_rfl)⟩ rfl ⟨_, rfl, resv_box (HS.mu 2 rfl) underlying62 rfl (by kernel_rfl)⟩ hR_ ⟨_, _, _, _, _, _, _, _, _, _, rfl, le19, (foot_fresh (HS.footN 2 rfl)), le23, (foot_fresh (HS.footN 3 rfl)), le27, (foot_fresh (HS.footN 4 rfl)), le39, (foot_fresh (HS.footN 0 rfl)), le43, (foot_fresh (HS.footN 1 rfl)), HS.b⟩
def spec_DrawPlaces.b0 (l0 : List Int) (rec_ : (List Int) → Int → Int → Int → Option ((List Int) × Int × Int × Int)) (k37 : Nat) (xs22 : List Int) (i25 : Int) (i26 : Int) (i27 : Int) : Option ((List Int) × Int × Int × Int) := (if i25 < 12 then ((spec_l01Below.g k37 (⟨l0, i26, i27⟩ : S146) 10000).bind fun t42 => (if (xs22.length) < 4294967296 then (rec_ (xs22 ++ [t42.1]) (wrap64 (i25 + 1)) t42.2.f1 t42.2.f2) else none)) else (some (xs22, i25, i26, i27)))
def spec_DrawPlaces.l0 (l0 : List Int) : Nat → (List Int) → Int → Int → Int → Option ((List Int) × Int × Int × Int)
 | 0, _, _, _, _ => none
 | k + 1, xs22, i25, i26, i27 => spec_DrawPlaces.b0 l0 (spec_DrawPlaces.l0 l0 k) k xs22 i25 i26 i27
def spec_DrawPlaces.g (k : Nat) (l0 : List Int) : Option (List Int) := ((spec_l01New.g k l0).bind fun t3 => ((spec_l01Byte.g k (⟨l0, t3.f1, t3.f2⟩ : S146)).bind fun t10 => ((spec_DrawPlaces.l0 l0 k ([] : List Int) 0 t10.2.f1 t10.2.f2).bind (fun oc35 => (some oc35.1)))))
theorem spec_DrawPlaces.runs (k : Nat) (A0 : Option Addr) (c0 : Nat) (l0 : List Int) (r : List Int) (w : World) (hr0 : kU.C w A0 l0.length l0) (hc0 : l0.length ≤ c0) (H : spec_DrawPlaces.g k l0 = some r) :
   Calls prog 44 #[.slice A0 l0.length c0] w fun e w' => ∃ (A0_ : Option Addr) (c0_ : Nat), e = .returned (.slice A0_ r.length c0_) ∧ r.length ≤ c0_ ∧ Foot (cF kI A0_ r) w' (fun k_ => w.heap.size ≤ k_) ∧ Below w.heap.size w w' := by
 unfold spec_DrawPlaces.g at H
 have HS : St (fun _ => True) w w [] [(cF kU A0 l0)] [] := St.start (foot_cons (foot_C (Kd.heap_int _) hr0) foot_nil)
 refine cw_ (n := 21) func44 fun R_ hR_ => ?_
 refine sr_ fun _ hK1 => ?_
 refine ad_ hK1 ?_
 refine sr_ fun _ hK2 => ?_
 refine mv_ ?_
 obtain ⟨t3, ha4, H⟩ := bind_some H
 refine c_ func94 (spec_l01New.runs k A0 c0 l0 t3 _ (HS.getO 0 rfl) hc0 ha4) ?_
 clear ha4
 rintro _ w5 ⟨b6, rfl, hn7, hx8, hb⟩
 replace HS := HS.gotBox hb hn7 hx8
 refine ⟨_, rfl, ?_⟩
 clear hb
 refine ad_ hK2 ?_
 refine sr_ fun _ hK9 => ?_
 refine mv_ ?_
 obtain ⟨t10, ha11, H⟩ := bind_some H
 refine c_ func104 (spec_l01Byte.runs k b6 (⟨l0, t3.f1, t3.f2⟩ : S146) A0 c0 _ t10.1 t10.2 _ _ HS.b (HS.nodupM 0 rfl) (HS.boundM 0 rfl) (HS.footOM 0 rfl 0 rfl) hc0 (HS.mu 0 rfl) ha11) ?_
 clear ha11
 rintro _ w12 ⟨rfl, hbx_, hrest_, hB1_⟩
 replace HS := HS.calledM 0 rfl hB1_ hrest_ hbx_
 dsimp only [List.set] at HS
 clear hB1_ hrest_ hbx_
 refine ⟨_, rfl, ?_⟩
 refine dn_ hK9 (sr_ fun _ hK13 => ?_)
 refine WL.lit0 HS rfl rfl (by decide) rfl underlying22 (sz := 1) (by kernel_rfl) (fun v14 w15 HS => ?_)
 replace HS := HS.deriveN (p := (rF kI ([] : List Int) [])) (fun _ _ => Reps.none _ _)
 refine ad_ hK13 ?_
 refine WC.seq fun K16 hK16 => ?_
 refine sr_ fun _ hK17 => ?_
 refine ad_ hK17 ?_
 refine WC.block ?_
 obtain ⟨G18, hG19, oc20, H, Ho21⟩ := open_G H
 let J28 := fun (xs22 : List Int) v23 I24 (i25 : Int) (i26 : Int) (i27 : Int) (E_ : Env) (W_ : World) => E_ = [(3, .pointer (some ⟨b6, 0, none⟩)), (4, v23), (5, vi i25)] ∧ St (fun _ => True) w W_ [rowM w.heap.size 3 1 v23 xs22.length I24, boxM b6 #[.slice A0 l0.length c0, vi i26, vi i27] 146] [(cF kU A0 l0)] [(rF kI xs22 I24)]
 have X29 : ∀ E_ W_, (∃ xs22 v23 I24 i25 i26 i27, G18 (xs22, i25, i26, i27) = some r ∧ J28 xs22 v23 I24 i25 i26 i27 E_ W_) → ∀ a, Fits a 21 E_ → K16 a W_ := by
   rintro E_ w30 ⟨xs22, v23, I24, i25, i26, i27, H, rfl, HS⟩
   rw [hG19] at H
   (try dsimp only at H)
   refine hK16 _ _ ?_
   refine sr_ fun _ hK31 => ?_
   refine mv_ ?_
   refine ad_ hK31 ?_
   refine WC.ret ?_
   obtain ⟨A32, c33, rfl⟩ := row_slice (HS.mu 0 rfl)
   have le34 := row_le (HS.mu 0 rfl)
   replace HS := HS.freezeN 0 (p := (cF kI A32 (xs22))) rfl (fun W_ hm_ h_ => row_C (by rfl) hm_ h_.1)
   dsimp only [List.eraseIdx] at HS
   obtain rfl := os H
   exact fin1 Try.f44 rfl rfl hR_ ⟨_, _, rfl, le34, (foot_fresh (HS.footN 0 rfl)), HS.b⟩
 clear hK16
 refine WC.loop (fun k_ E_ W_ => ∃ xs22 v23 I24 i25 i26 i27, (∃ o_, spec_DrawPlaces.l0 l0 k_ xs22 i25 i26 i27 = some o_ ∧ G18 o_ = some r) ∧ J28 xs22 v23 I24 i25 i26 i27 E_ W_) k ⟨([] : List Int), v14, ([]), 0, t10.2.f1, t10.2.f2, ⟨_, H, Ho21⟩, rfl, HS⟩ (sb rfl) ?_
 rintro k_ E_ w36 ⟨xs22, v23, I24, i25, i26, i27, ⟨oc20, H, Ho21⟩, rfl, HS⟩
 rcases k_ with _ | k37
 · exact no_ H
 replace H : spec_DrawPlaces.b0 l0 (spec_DrawPlaces.l0 l0 k37) k37 xs22 i25 i26 i27 = some oc20 := H
 unfold spec_DrawPlaces.b0 at H
 refine WC.seq fun _ hK38 => ?_
 refine sr_ fun _ hK39 => ?_
 refine mv_ ?_
 refine b_ bin_lss ?_
 refine dn_ hK39 ?_
 rcases eti_ H with ⟨c40, H⟩ | ⟨c40, H⟩
 · refine wn_ (dF c40) (WC.exit ?_)
   obtain rfl := os H
   exact wv_ iq X29 ⟨xs22, v23, I24, i25, i26, i27, Ho21, rfl, HS⟩
 refine wy_ (dT c40) (WC.skip (via_ hK38 (WC.seq fun _ hK41 => ?_)))
 refine WC.block (rg_ (mv_ ?_))
 refine mv_ ?_
 obtain ⟨t42, ha43, H⟩ := bind_some H
 refine c_ func95 (spec_l01Below.runs k37 b6 (⟨l0, i26, i27⟩ : S146) A0 c0 10000 _ t42.1 t42.2 _ _ HS.b (HS.nodupM 1 rfl) (HS.boundM 1 rfl) (HS.footOM 1 rfl 0 rfl) hc0 (HS.mu 1 rfl) ha43) ?_
 clear ha43
 rintro _ w44 ⟨rfl, hbx_, hrest_, hB1_⟩
 replace HS := HS.calledM 1 rfl hB1_ hrest_ hbx_
 dsimp only [List.set] at HS
 clear hB1_ hrest_ hbx_
 refine ⟨_, rfl, ?_⟩
 refine WL.val rfl rfl (by decide) (Run.lit1 (z := (vi 0)) (vs := [vi t42.1]) rfl rfl rfl underlying22 (by kernel_rfl) (ble_ rfl) (ble_ rfl)) ?_
 have HS1 := HS.below (below_alloc (Below.refl _ _) (.cells #[vi t42.1] 3))
 obtain ⟨q45, H⟩ := if_some H
 refine WL.append HS1 0 rfl rfl rfl (by decide) rfl (vi 0) 8 underlying22 (by kernel_rfl) rfl (by decide) (by decide) rfl rfl [vi t42.1] rfl (lit_news _ _ _) (oneL rfl) (by omega) ((xs22 ++ [t42.1]).length) (by simp) (fun v46 w47 I48 hI49 HS => ?_)
 dsimp only [List.set] at HS
 replace HS := HS.deriveN (p := (rF kI (xs22 ++ [t42.1]) I48)) (fun W_ hN_ => reps_snoc hI49 hN_.1 (K_int _))
 clear HS1
 refine ad_ hK41 ?_
 refine rg_ (mv_ ?_)
 refine b_ bin_add64 ?_
 refine as_ ?_
 refine WL.done ?_
 exact wr_ k37 iq ⟨(xs22 ++ [t42.1]), v46, I48, (wrap64 (i25 + 1)), t42.2.f1, t42.2.f2, ⟨_, H, Ho21⟩, rfl, (St.pk HS [0] [0] rfl rfl)⟩
def impl_PoolOk.g (k : Nat) (l0 : List Int) : Option Bool := (if (l0.length : Int) ≤ 16 then ((impl_allIn.f l0 0 20).bind fun t4 => (some t4)) else (some false))
theorem impl_PoolOk.runs (k : Nat) (A0 : Option Addr) (c0 : Nat) (l0 : List Int) (r : Bool) (w : World) (hr0 : kI.C w A0 l0.length l0) (hc0 : l0.length ≤ c0) (H : impl_PoolOk.g k l0 = some r) :
   Calls prog 117 #[.slice A0 l0.length c0] w fun e w' => e = .returned (.bool r) ∧ Below w.heap.size w w' := by
 unfold impl_PoolOk.g at H
 have HS : St (fun _ => True) w w [] [(cF kI A0 l0)] [] := St.start (foot_cons (foot_C (Kd.heap_int _) hr0) foot_nil)
 refine cw_ (n := 10) func117 fun R_ hR_ => ?_
 refine sr_ fun _ hK1 => ?_
 refine ad_ hK1 ?_
 refine sr_ fun _ hK2 => ?_
 refine mv_ ?_
 refine ln_ underlying22 ?_
 refine b_ bin_leq ?_
 refine mv_ ?_
 rcases eti_ H with ⟨c3, H⟩ | ⟨c3, H⟩
 · refine off_ (c' := false) (dF c3) ?_
   refine WL.know 6 (dF c3) ?_
   refine fast_ ?_
   refine via_ hK2 ?_
   obtain rfl := os H
   exact rt1 Try.f117 rfl rfl hR_ ⟨rfl, HS.b⟩
 refine on_ (dT c3) (mv_ ?_)
 refine on_ (dT c3) ?_
 obtain ⟨t4, ha5, H⟩ := bind_some H
 refine cs_ HS func86 (impl_allIn.calls A0 c0 l0 0 20 t4 _ (HS.getO 0 rfl) hc0 ha5) (fun w6 HS => ?_)
 clear ha5
 refine v_ (Run.pickT rfl rfl (dT c3) rfl) ?_
 refine ad_ hK2 ?_
 obtain rfl := os H
 exact rt1 Try.f117 rfl rfl hR_ ⟨rfl, HS.b⟩
def impl_StoreOk.b0 (x0 : S58) (rec_ : Int → Option (Bool ⊕ Int)) (k24 : Nat) (i17 : Int) : Option (Bool ⊕ Int) := (if i17 < (x0.f1.length : Int) then (if 0 ≤ i17 ∧ i17 < (x0.f1.length : Int) then (if ((x0.f1.getD i17.toNat []).length : Int) > 4 then (some (Sum.inl false)) else (if 0 ≤ i17 ∧ i17 < (x0.f0.length : Int) then (if (x0.f0.getD i17.toNat 0) = 0 then (if ((x0.f1.getD i17.toNat []).length : Int) > 0 then (some (Sum.inl false)) else (rec_ (wrap64 (i17 + 1)))) else (rec_ (wrap64 (i17 + 1)))) else none)) else none) else (some (Sum.inr i17)))
def impl_StoreOk.l0 (x0 : S58) : Nat → Int → Option (Bool ⊕ Int)
 | 0, _ => none
 | k + 1, i17 => impl_StoreOk.b0 x0 (impl_StoreOk.l0 x0 k) k i17
def impl_StoreOk.g (k : Nat) (x0 : S58) : Option Bool := ((impl_PoolOk.g k x0.f0).bind fun t6 => (if t6 = true then (if (x0.f1.length : Int) = (x0.f0.length : Int) then ((impl_StoreOk.l0 x0 k 0).bind (fun oc22 => match oc22 with | .inl r_ => some r_ | .inr i17 => (some true))) else (some false)) else (some false)))
theorem impl_StoreOk.runs (k : Nat) (x0 : S58) (A0_0 : Option Addr) (c0_0 : Nat) (A0_1 : Option Addr) (c0_1 : Nat) (r : Bool) (w : World) (hr0_0 : kI.C w A0_0 x0.f0.length x0.f0) (hc0_0 : x0.f0.length ≤ c0_0) (hr0_1 : kS62.C w A0_1 x0.f1.length x0.f1) (hc0_1 : x0.f1.length ≤ c0_1) (H : impl_StoreOk.g k x0 = some r) :
   Calls prog 47 #[.agg #[.slice A0_0 x0.f0.length c0_0, .slice A0_1 x0.f1.length c0_1]] w fun e w' => e = .returned (.bool r) ∧ Below w.heap.size w w' := by
 unfold impl_StoreOk.g at H
 have HS : St (fun _ => True) w w [] [(cF kI A0_0 x0.f0), (cF kS62 A0_1 x0.f1)] [] := St.start (foot_cons (foot_C (Kd.heap_int _) hr0_0) (foot_cons (foot_C (Kd.heap_slice _ h62) hr0_1) foot_nil))
 refine cw_ (n := 43) func47 fun R_ hR_ => ?_
 refine sr_ fun _ hK1 => ?_
 refine bo_ HS (fun b2 w3 hb2 HS => ?_)
 refine ad_ hK1 ?_
 refine WC.seq fun _ hK4 => ?_
 refine sr_ fun _ hK5 => ?_
 refine v_ (fa_ underlying58) ?_
 refine v_ (lb_ (HS.mu 0 rfl) underlying22 rfl) ?_
 obtain ⟨t6, ha7, H⟩ := bind_some H
 refine cs_ HS func117 (impl_PoolOk.runs k A0_0 c0_0 x0.f0 t6 _ (HS.getO 0 rfl) hc0_0 ha7) (fun w8 HS => ?_)
 clear ha7
 refine nt_ ?_
 refine mv_ ?_
 rcases eti_ H with ⟨c9, H⟩ | ⟨c9, H⟩
 · refine off_ (c' := true) (nB (bF c9)) ?_
   refine WL.know 9 (nB (bF c9)) ?_
   refine fast_ ?_
   refine via_ hK5 (wy_ rfl ?_)
   refine sr_ fun _ hK46 => ?_
   refine ad_ hK46 ?_
   obtain rfl := os H
   exact rt1 Try.f47 rfl rfl hR_ ⟨rfl, HS.b⟩
 refine on_ (nB c9) (v_ (fa_ underlying58) ?_)
 refine on_ (nB c9) (v_ (lb_ (HS.mu 0 rfl) underlying56 rfl) ?_)
 refine on_ (nB c9) (ln_ underlying56 ?_)
 refine on_ (nB c9) (v_ (fa_ underlying58) ?_)
 refine on_ (nB c9) (v_ (lb_ (HS.mu 0 rfl) underlying22 rfl) ?_)
 refine on_ (nB c9) (ln_ underlying22 ?_)
 refine on_ (nB c9) (b_ bin_neq ?_)
 refine v_ (Run.pickF rfl rfl (nB c9) rfl) ?_
 refine dn_ hK5 ?_
 rcases eti_ H with ⟨c10, H⟩ | ⟨c10, H⟩
 · refine wy_ (qT c10) (sr_ fun _ hK45 => ?_)
   refine ad_ hK45 ?_
   obtain rfl := os H
   exact rt1 Try.f47 rfl rfl hR_ ⟨rfl, HS.b⟩
 refine wn_ (qF c10) (WC.skip (via_ hK4 (WC.seq fun K11 hK11 => ?_)))
 refine sr_ fun _ hK12 => ?_
 refine v_ (fa_ underlying58) ?_
 refine v_ (lb_ (HS.mu 0 rfl) underlying56 rfl) ?_
 refine ln_ underlying56 ?_
 refine mv_ ?_
 refine dn_ hK12 (WC.block ?_)
 obtain ⟨G13, hG14, oc15, H, Ho16⟩ := open_G H
 let J18 := fun (i17 : Int) (E_ : Env) (W_ : World) => E_ = [(1, .pointer (some ⟨b2, 0, none⟩)), (19, .slice A0_1 x0.f1.length c0_1), (20, vi (x0.f1.length : Int)), (21, vi i17)] ∧ St (fun _ => True) w W_ [boxM b2 #[.slice A0_0 x0.f0.length c0_0, .slice A0_1 x0.f1.length c0_1] 58] [(cF kI A0_0 x0.f0), (cF kS62 A0_1 x0.f1)] []
 have X19 : ∀ E_ W_, (∃ i17, G13 (Sum.inr i17) = some r ∧ J18 i17 E_ W_) → ∀ a, Fits a 43 E_ → K11 a W_ := by
   rintro E_ w20 ⟨i17, H, rfl, HS⟩
   rw [hG14] at H
   (try dsimp only at H)
   refine hK11 _ _ ?_
   refine sr_ fun _ hK21 => ?_
   refine ad_ hK21 ?_
   obtain rfl := os H
   exact rt1 Try.f47 rfl rfl hR_ ⟨rfl, HS.b⟩
 clear hK11
 refine WC.loop (fun k_ E_ W_ => ∃ i17, (∃ o_, impl_StoreOk.l0 x0 k_ i17 = some o_ ∧ G13 o_ = some r) ∧ J18 i17 E_ W_) k ⟨0, ⟨_, H, Ho16⟩, rfl, HS⟩ (sb rfl) ?_
 rintro k_ E_ w23 ⟨i17, ⟨oc15, H, Ho16⟩, rfl, HS⟩
 rcases k_ with _ | k24
 · exact no_ H
 replace H : impl_StoreOk.b0 x0 (impl_StoreOk.l0 x0 k24) k24 i17 = some oc15 := H
 unfold impl_StoreOk.b0 at H
 refine sr_ fun _ hK25 => ?_
 refine b_ bin_lss ?_
 refine dn_ hK25 (WC.seq fun _ hK26 => ?_)
 rcases eti_ H with ⟨c27, H⟩ | ⟨c27, H⟩
 · refine wn_ (dF c27) (WC.exit ?_)
   obtain rfl := os H
   exact wv_ iq X19 ⟨i17, Ho16, rfl, HS⟩
 refine wy_ (dT c27) (WC.skip (via_ hK26 (WC.seq fun _ hK28 => ?_)))
 refine WC.block (sr_ fun _ hK29 => ?_)
 refine mv_ ?_
 obtain ⟨⟨q30, q31⟩, H⟩ := if_some H
 obtain ⟨ad32, rfl⟩ := C_open (HS.getO 1 rfl) (lenpos q30 q31)
 refine v_ (ia_ underlying56 1 q30 q31) ?_
 obtain ⟨A33, c34, le35, HS⟩ := HS.slO 1 rfl i17 q30 q31
 refine v_ (Run.load rfl rfl underlying71 rfl (HS.getO 1 rfl)) ?_
 refine as_ ?_
 refine ad_ hK29 ?_
 refine sr_ fun _ hK36 => ?_
 refine mv_ ?_
 refine ln_ underlying71 ?_
 refine b_ bin_gtr ?_
 refine mv_ ?_
 rcases ite_ H with ⟨c37, H⟩ | ⟨c37, H⟩
 · refine off_ (c' := true) (dT c37) ?_
   refine WL.know 29 (dT c37) ?_
   refine fast_ ?_
   refine via_ hK36 (wy_ rfl ?_)
   refine sr_ fun _ hK38 => ?_
   refine ad_ hK38 ?_
   refine WC.ret ?_
   obtain rfl := os H
   rw [hG14] at Ho16
   replace H : some _ = some _ := Ho16
   obtain rfl := os H
   exact fin1 Try.f47 rfl rfl hR_ ⟨rfl, HS.b⟩
 refine on_ (dF c37) (v_ (fa_ underlying58) ?_)
 refine on_ (dF c37) (v_ (lb_ (HS.mu 0 rfl) underlying22 rfl) ?_)
 refine on_ (dF c37) (mv_ ?_)
 refine on_ (dF c37) ?_
 obtain ⟨⟨q39, q40⟩, H⟩ := if_some H
 obtain ⟨ad41, rfl⟩ := C_open (HS.getO 2 rfl) (lenpos q39 q40)
 refine v_ (ia_ underlying22 1 q39 q40) ?_
 refine on_ (dF c37) (v_ (Run.load rfl rfl underlying3 rfl (int_cell (HS.getO 2 rfl) i17 q39 q40)) ?_)
 refine on_ (dF c37) (b_ bin_eql ?_)
 refine on_ (dF c37) (mv_ ?_)
 rcases eti_ H with ⟨c42, H⟩ | ⟨c42, H⟩
 · refine off_ (c' := false) (eF c42) ?_
   refine off_ (c' := false) (eF c42) ?_
   refine off_ (c' := false) (eF c42) ?_
   refine on_ (dF c37) (v_ (Run.pickF rfl rfl (eF c42) rfl) ?_)
   refine v_ (Run.pickF rfl rfl (dF c37) rfl) ?_
   refine dn_ hK36 (wn_ rfl ?_)
   refine WC.skip (via_ hK28 (rg_ (b_ bin_add64 ?_)))
   refine mv_ ?_
   refine WL.done ?_
   exact wr_ k24 iq ⟨(wrap64 (i17 + 1)), ⟨_, H, Ho16⟩, rfl, (St.pk HS [2, 3] [] rfl rfl)⟩
 refine on_ (eT c42) (mv_ ?_)
 refine on_ (eT c42) (ln_ underlying71 ?_)
 refine on_ (eT c42) (b_ bin_gtr ?_)
 refine on_ (dF c37) (v_ (Run.pickT rfl rfl (eT c42) rfl) ?_)
 refine v_ (Run.pickF rfl rfl (dF c37) rfl) ?_
 refine dn_ hK36 ?_
 rcases eti_ H with ⟨c43, H⟩ | ⟨c43, H⟩
 · refine wn_ (dF c43) (WC.skip (via_ hK28 (rg_ (b_ bin_add64 ?_))))
   refine mv_ ?_
   refine WL.done ?_
   exact wr_ k24 iq ⟨(wrap64 (i17 + 1)), ⟨_, H, Ho16⟩, rfl, (St.pk HS [2, 3] [] rfl rfl)⟩
 refine wy_ (dT c43) (sr_ fun _ hK44 => ?_)
 refine ad_ hK44 ?_
 refine WC.ret ?_
 obtain rfl := os H
 rw [hG14] at Ho16
 replace H : some _ = some _ := Ho16
 obtain rfl := os H
 exact fin1 Try.f47 rfl rfl hR_ ⟨rfl, HS.b⟩
def slices_Index_int_int.b0 (l0 : List Int) (a1 : Int) (rec_ : Int → Option (Int ⊕ Int)) (k15 : Nat) (i8 : Int) : Option (Int ⊕ Int) := (if i8 < (l0.length : Int) then (if 0 ≤ i8 ∧ i8 < (l0.length : Int) then (if a1 = (l0.getD i8.toNat 0) then (some (Sum.inl i8)) else (rec_ (wrap64 (i8 + 1)))) else none) else (some (Sum.inr i8)))
def slices_Index_int_int.l0 (l0 : List Int) (a1 : Int) : Nat → Int → Option (Int ⊕ Int)
 | 0, _ => none
 | k + 1, i8 => slices_Index_int_int.b0 l0 a1 (slices_Index_int_int.l0 l0 a1 k) k i8
def slices_Index_int_int.g (k : Nat) (l0 : List Int) (a1 : Int) : Option Int := ((slices_Index_int_int.l0 l0 a1 k 0).bind (fun oc13 => match oc13 with | .inl r_ => some r_ | .inr i8 => (some (-1))))
theorem slices_Index_int_int.runs (k : Nat) (A0 : Option Addr) (c0 : Nat) (l0 : List Int) (a1 : Int) (r : Int) (w : World) (hr0 : kI.C w A0 l0.length l0) (hc0 : l0.length ≤ c0) (H : slices_Index_int_int.g k l0 a1 = some r) :
   Calls prog 161 #[.slice A0 l0.length c0, vi a1] w fun e w' => e = .returned (vi r) ∧ Below w.heap.size w w' := by
 unfold slices_Index_int_int.g at H
 have HS : St (fun _ => True) w w [] [(cF kI A0 l0)] [] := St.start (foot_cons (foot_C (Kd.heap_int _) hr0) foot_nil)
 refine cw_ (n := 19) func161 fun R_ hR_ => ?_
 refine sr_ fun _ hK1 => ?_
 refine ad_ hK1 ?_
 refine WC.seq fun K2 hK2 => ?_
 refine sr_ fun _ hK3 => ?_
 refine mv_ ?_
 refine ln_ underlying22 ?_
 refine mv_ ?_
 refine dn_ hK3 (WC.block ?_)
 obtain ⟨G4, hG5, oc6, H, Ho7⟩ := open_G H
 let J9 := fun (i8 : Int) (E_ : Env) (W_ : World) => E_ = [(0, .slice A0 l0.length c0), (1, vi a1), (7, vi (l0.length : Int)), (8, vi i8)] ∧ St (fun _ => True) w W_ [] [(cF kI A0 l0)] []
 have X10 : ∀ E_ W_, (∃ i8, G4 (Sum.inr i8) = some r ∧ J9 i8 E_ W_) → ∀ a, Fits a 19 E_ → K2 a W_ := by
   rintro E_ w11 ⟨i8, H, rfl, HS⟩
   rw [hG5] at H
   (try dsimp only at H)
   refine hK2 _ _ ?_
   refine sr_ fun _ hK12 => ?_
   refine ad_ hK12 ?_
   obtain rfl := os H
   exact rt1 Try.f161 rfl rfl hR_ ⟨rfl, HS.b⟩
 clear hK2
 refine WC.loop (fun k_ E_ W_ => ∃ i8, (∃ o_, slices_Index_int_int.l0 l0 a1 k_ i8 = some o_ ∧ G4 o_ = some r) ∧ J9 i8 E_ W_) k ⟨0, ⟨_, H, Ho7⟩, rfl, HS⟩ (sb rfl) ?_
 rintro k_ E_ w14 ⟨i8, ⟨oc6, H, Ho7⟩, rfl, HS⟩
 rcases k_ with _ | k15
 · exact no_ H
 replace H : slices_Index_int_int.b0 l0 a1 (slices_Index_int_int.l0 l0 a1 k15) k15 i8 = some oc6 := H
 unfold slices_Index_int_int.b0 at H
 refine sr_ fun _ hK16 => ?_
 refine b_ bin_lss ?_
 refine dn_ hK16 (WC.seq fun _ hK17 => ?_)
 rcases eti_ H with ⟨c18, H⟩ | ⟨c18, H⟩
 · refine wn_ (dF c18) (WC.exit ?_)
   obtain rfl := os H
   exact wv_ iq X10 ⟨i8, Ho7, rfl, HS⟩
 refine wy_ (dT c18) (WC.skip (via_ hK17 (WC.seq fun _ hK19 => ?_)))
 refine WC.block (sr_ fun _ hK20 => ?_)
 refine mv_ ?_
 refine ad_ hK20 ?_
 refine sr_ fun _ hK21 => ?_
 refine mv_ ?_
 refine mv_ ?_
 refine mv_ ?_
 obtain ⟨⟨q22, q23⟩, H⟩ := if_some H
 obtain ⟨ad24, rfl⟩ := C_open (HS.getO 0 rfl) (lenpos q22 q23)
 refine v_ (ia_ underlying22 1 q22 q23) ?_
 refine v_ (Run.load rfl rfl underlying3 rfl (int_cell (HS.getO 0 rfl) i8 q22 q23)) ?_
 refine b_ bin_eql ?_
 refine dn_ hK21 ?_
 rcases eti_ H with ⟨c25, H⟩ | ⟨c25, H⟩
 · refine wn_ (eF c25) (WC.skip (via_ hK19 (rg_ (b_ bin_add64 ?_))))
   refine mv_ ?_
   refine WL.done ?_
   exact wr_ k15 iq ⟨(wrap64 (i8 + 1)), ⟨_, H, Ho7⟩, rfl, HS⟩
 refine wy_ (eT c25) (sr_ fun _ hK26 => ?_)
 refine mv_ ?_
 refine ad_ hK26 ?_
 refine WC.ret ?_
 obtain rfl := os H
 rw [hG5] at Ho7
 replace H : some _ = some _ := Ho7
 obtain rfl := os H
 exact fin1 Try.f161 rfl rfl hR_ ⟨rfl, HS.b⟩
def slices_Contains_int_int.g (k : Nat) (l0 : List Int) (a1 : Int) : Option Bool := ((slices_Index_int_int.g k l0 a1).bind fun t3 => (some (decide (t3 ≥ 0))))
theorem slices_Contains_int_int.runs (k : Nat) (A0 : Option Addr) (c0 : Nat) (l0 : List Int) (a1 : Int) (r : Bool) (w : World) (hr0 : kI.C w A0 l0.length l0) (hc0 : l0.length ≤ c0) (H : slices_Contains_int_int.g k l0 a1 = some r) :
   Calls prog 150 #[.slice A0 l0.length c0, vi a1] w fun e w' => e = .returned (.bool r) ∧ Below w.heap.size w w' := by
 unfold slices_Contains_int_int.g at H
 have HS : St (fun _ => True) w w [] [(cF kI A0 l0)] [] := St.start (foot_cons (foot_C (Kd.heap_int _) hr0) foot_nil)
 refine cw_ (n := 9) func150 fun R_ hR_ => ?_
 refine sr_ fun _ hK1 => ?_
 refine ad_ hK1 ?_
 refine sr_ fun _ hK2 => ?_
 refine mv_ ?_
 refine mv_ ?_
 obtain ⟨t3, ha4, H⟩ := bind_some H
 refine cs_ HS func161 (slices_Index_int_int.runs k A0 c0 l0 a1 t3 _ (HS.getO 0 rfl) hc0 ha4) (fun w5 HS => ?_)
 clear ha4
 refine b_ bin_geq ?_
 refine ad_ hK2 ?_
 obtain rfl := os H
 exact rt1 Try.f150 rfl rfl hR_ ⟨rfl, HS.b⟩
def impl_lastCells.g (k : Nat) (x0 : S67) (a1 : Int) : Option Int := (some (if wrap64 (x0.f1 - (wrap64 (a1 * 4))) < 4 then wrap64 (x0.f1 - (wrap64 (a1 * 4))) else 4))
theorem impl_lastCells.runs (k : Nat) (x0 : S67) (A0_0 : Option Addr) (c0_0 : Nat) (a1 : Int) (r : Int) (w : World) (hr0_0 : kI.C w A0_0 x0.f0.length x0.f0) (hc0_0 : x0.f0.length ≤ c0_0) (H : impl_lastCells.g k x0 a1 = some r) :
   Calls prog 148 #[.agg #[.slice A0_0 x0.f0.length c0_0, vi x0.f1], vi a1] w fun e w' => e = .returned (vi r) ∧ Below w.heap.size w w' := by
 unfold impl_lastCells.g at H
 have HS : St (fun _ => True) w w [] [(cF kI A0_0 x0.f0)] [] := St.start (foot_cons (foot_C (Kd.heap_int _) hr0_0) foot_nil)
 refine cw_ (n := 11) func148 fun R_ hR_ => ?_
 refine sr_ fun _ hK1 => ?_
 refine bo_ HS (fun b2 w3 hb2 HS => ?_)
 refine ad_ hK1 ?_
 refine sr_ fun _ hK4 => ?_
 refine v_ (fa_ underlying67) ?_
 refine v_ (lb_ (HS.mu 0 rfl) underlying3 rfl) ?_
 refine mv_ ?_
 refine b_ bin_mul64 ?_
 refine b_ bin_sub64 ?_
 refine v_ (Run.min2 rfl rfl rfl) ?_
 refine ad_ hK4 ?_
 obtain rfl := os H
 exact rt1 Try.f148 rfl rfl hR_ ⟨rfl, HS.b⟩
def impl_tableOk.b0 (x0 : S58) (x1 : S67) (rec_ : Int → Option (Bool ⊕ Int)) (k30 : Nat) (i23 : Int) : Option (Bool ⊕ Int) := (if i23 < (x1.f0.length : Int) then (if 0 ≤ i23 ∧ i23 < (x1.f0.length : Int) then ((impl_in.f (x1.f0.getD i23.toNat 0) 0 (wrap64 ((x0.f0.length : Int) - 1))).bind fun t41 => (if t41 = true then (if 0 ≤ (x1.f0.getD i23.toNat 0) ∧ (x1.f0.getD i23.toNat 0) < (x0.f0.length : Int) then (if (x0.f0.getD (x1.f0.getD i23.toNat 0).toNat 0) = 0 then (some (Sum.inl false)) else (if 0 ≤ i23 ∧ i23 ≤ (x1.f0.length : Int) then ((slices_Contains_int_int.g k30 (x1.f0.take i23.toNat) (x1.f0.getD i23.toNat 0)).bind fun t57 => (if t57 = true then (some (Sum.inl false)) else (if 0 ≤ (x1.f0.getD i23.toNat 0) ∧ (x1.f0.getD i23.toNat 0) < (x0.f1.length : Int) then ((impl_lastCells.g k30 (⟨x1.f0, x1.f1⟩ : S67) i23).bind fun t68 => (if ((x0.f1.getD (x1.f0.getD i23.toNat 0).toNat []).length : Int) < t68 then (some (Sum.inl false)) else (rec_ (wrap64 (i23 + 1))))) else none))) else none)) else none) else (some (Sum.inl false)))) else none) else (some (Sum.inr i23)))
def impl_tableOk.l0 (x0 : S58) (x1 : S67) : Nat → Int → Option (Bool ⊕ Int)
 | 0, _ => none
 | k + 1, i23 => impl_tableOk.b0 x0 x1 (impl_tableOk.l0 x0 x1 k) k i23
def impl_tableOk.g (k : Nat) (x0 : S58) (x1 : S67) : Option Bool := (if x1.f1 < 0 then (some false) else (if x1.f1 > 64 then (some false) else ((impl_NeedPages.f x1.f1).bind fun t13 => (if (x1.f0.length : Int) = t13 then ((impl_tableOk.l0 x0 x1 k 0).bind (fun oc28 => match oc28 with | .inl r_ => some r_ | .inr i23 => (some true))) else (some false)))))
theorem impl_tableOk.runs (k : Nat) (x0 : S58) (A0_0 : Option Addr) (c0_0 : Nat) (A0_1 : Option Addr) (c0_1 : Nat) (x1 : S67) (A1_0 : Option Addr) (c1_0 : Nat) (r : Bool) (w : World) (hr0_0 : kI.C w A0_0 x0.f0.length x0.f0) (hc0_0 : x0.f0.length ≤ c0_0) (hr0_1 : kS62.C w A0_1 x0.f1.length x0.f1) (hc0_1 : x0.f1.length ≤ c0_1) (hr1_0 : kI.C w A1_0 x1.f0.length x1.f0) (hc1_0 : x1.f0.length ≤ c1_0) (H : impl_tableOk.g k x0 x1 = some r) :
   Calls prog 124 #[.agg #[.slice A0_0 x0.f0.length c0_0, .slice A0_1 x0.f1.length c0_1], .agg #[.slice A1_0 x1.f0.length c1_0, vi x1.f1]] w fun e w' => e = .returned (.bool r) ∧ Below w.heap.size w w' := by
 unfold impl_tableOk.g at H
 have HS : St (fun _ => True) w w [] [(cF kI A0_0 x0.f0), (cF kS62 A0_1 x0.f1), (cF kI A1_0 x1.f0)] [] := St.start (foot_cons (foot_C (Kd.heap_int _) hr0_0) (foot_cons (foot_C (Kd.heap_slice _ h62) hr0_1) (foot_cons (foot_C (Kd.heap_int _) hr1_0) foot_nil)))
 refine cw_ (n := 68) func124 fun R_ hR_ => ?_
 refine sr_ fun _ hK1 => ?_
 refine bo_ HS (fun b2 w3 hb2 HS => ?_)
 refine bo_ HS (fun b4 w5 hb4 HS => ?_)
 refine ad_ hK1 ?_
 refine WC.seq fun _ hK6 => ?_
 refine WC.seq fun _ hK7 => ?_
 refine WC.drawS HS [] rfl rfl (fun w8 HS => ?_)
 have HB := Below.refl w8.heap.size w8
 have HSW := HS
 refine df_ 0 underlying67 ?_
 refine bl_ 1 HS (Below.refl _ _) 0 underlying3 rfl ?_
 refine dp_ 2 (fun _ => Run.bin rfl rfl rfl bin_lss) ?_
 refine dm_ 3 ?_
 rcases ite_ H with ⟨c9, H⟩ | ⟨c9, H⟩
 · refine doTs_ 3 10 [4, 5, 6] [11, 12, 13] (dT c9) ?_
   refine dp_ 7 (fun _ => Run.pickT rfl rfl (dT c9) rfl) ?_
   refine dm_ 8 ?_
   refine doTs_ 7 15 [9, 10, 11, 12, 13, 14, 15] [16, 17, 18, 19, 20, 21, 22] rfl ?_
   refine dp_ 16 (fun _ => Run.pickT rfl rfl rfl rfl) ?_
   refine dd_ ?_
   clear HB HSW
   refine via_ hK7 (wy_ rfl ?_)
   refine sr_ fun _ hK10 => ?_
   refine ad_ hK10 ?_
   obtain rfl := os H
   exact rt1 Try.f124 rfl rfl hR_ ⟨rfl, HS.b⟩
 refine dfg_ 4 (dF c9) underlying67 ?_
 refine blg_ 5 (dF c9) HS (Below.refl _ _) 0 underlying3 rfl ?_
 refine dg_ 6 (dF c9) (fun _ => Run.bin rfl rfl rfl bin_gtr) ?_
 refine dp_ 7 (fun _ => Run.pickF rfl rfl (dF c9) rfl) ?_
 refine dm_ 8 ?_
 rcases ite_ H with ⟨c11, H⟩ | ⟨c11, H⟩
 · refine doTs_ 7 15 [9, 10, 11, 12, 13, 14, 15] [16, 17, 18, 19, 20, 21, 22] (dT c11) ?_
   refine dp_ 16 (fun _ => Run.pickT rfl rfl (dT c11) rfl) ?_
   refine dd_ ?_
   clear HB HSW
   refine via_ hK7 (wy_ rfl ?_)
   refine sr_ fun _ hK12 => ?_
   refine ad_ hK12 ?_
   obtain rfl := os H
   exact rt1 Try.f124 rfl rfl hR_ ⟨rfl, HS.b⟩
 refine dfg_ 9 (dF c11) underlying67 ?_
 refine dfg_ 12 (dF c11) underlying67 ?_
 refine blg_ 10 (dF c11) HS (Below.refl _ _) 0 underlying22 rfl ?_
 refine dg_ 11 (dF c11) (fun _ => Run.len (ts := #[]) rfl underlying22 rfl) ?_
 refine blg_ 13 (dF c11) HS (Below.refl _ _) 0 underlying3 rfl ?_
 obtain ⟨t13, ha14, H⟩ := bind_some H
 refine dcs0_ HS HB 14 (w_on rfl rfl rfl (dF c11)) func53 (impl_NeedPages.calls x1.f1 t13 _ ha14) (fun w15 HS HB => ?_)
 clear ha14
 refine dg_ 15 (dF c11) (fun _ => Run.bin rfl rfl rfl bin_neq) ?_
 refine dp_ 16 (fun _ => Run.pickF rfl rfl (dF c11) rfl) ?_
 refine dd_ ?_
 clear HB HSW
 refine via_ hK7 ?_
 rcases eti_ H with ⟨c16, H⟩ | ⟨c16, H⟩
 · refine wy_ (qT c16) (sr_ fun _ hK74 => ?_)
   refine ad_ hK74 ?_
   obtain rfl := os H
   exact rt1 Try.f124 rfl rfl hR_ ⟨rfl, HS.b⟩
 refine wn_ (qF c16) (WC.skip (via_ hK6 (WC.seq fun K17 hK17 => ?_)))
 refine sr_ fun _ hK18 => ?_
 refine v_ (fa_ underlying67) ?_
 refine v_ (lb_ (HS.mu 0 rfl) underlying22 rfl) ?_
 refine ln_ underlying22 ?_
 refine mv_ ?_
 refine dn_ hK18 (WC.block ?_)
 obtain ⟨G19, hG20, oc21, H, Ho22⟩ := open_G H
 let J24 := fun (i23 : Int) (E_ : Env) (W_ : World) => E_ = [(2, .pointer (some ⟨b2, 0, none⟩)), (3, .pointer (some ⟨b4, 0, none⟩)), (25, .slice A1_0 x1.f0.length c1_0), (26, vi (x1.f0.length : Int)), (27, vi i23)] ∧ St (fun _ => True) w W_ [boxM b4 #[.slice A1_0 x1.f0.length c1_0, vi x1.f1] 67, boxM b2 #[.slice A0_0 x0.f0.length c0_0, .slice A0_1 x0.f1.length c0_1] 58] [(cF kI A0_0 x0.f0), (cF kS62 A0_1 x0.f1), (cF kI A1_0 x1.f0)] []
 have X25 : ∀ E_ W_, (∃ i23, G19 (Sum.inr i23) = some r ∧ J24 i23 E_ W_) → ∀ a, Fits a 68 E_ → K17 a W_ := by
   rintro E_ w26 ⟨i23, H, rfl, HS⟩
   rw [hG20] at H
   (try dsimp only at H)
   refine hK17 _ _ ?_
   refine sr_ fun _ hK27 => ?_
   refine ad_ hK27 ?_
   obtain rfl := os H
   exact rt1 Try.f124 rfl rfl hR_ ⟨rfl, HS.b⟩
 clear hK17
 refine WC.loop (fun k_ E_ W_ => ∃ i23, (∃ o_, impl_tableOk.l0 x0 x1 k_ i23 = some o_ ∧ G19 o_ = some r) ∧ J24 i23 E_ W_) k ⟨0, ⟨_, H, Ho22⟩, rfl, HS⟩ (sb rfl) ?_
 rintro k_ E_ w29 ⟨i23, ⟨oc21, H, Ho22⟩, rfl, HS⟩
 rcases k_ with _ | k30
 · exact no_ H
 replace H : impl_tableOk.b0 x0 x1 (impl_tableOk.l0 x0 x1 k30) k30 i23 = some oc21 := H
 unfold impl_tableOk.b0 at H
 refine sr_ fun _ hK31 => ?_
 refine b_ bin_lss ?_
 refine dn_ hK31 (WC.seq fun _ hK32 => ?_)
 rcases eti_ H with ⟨c33, H⟩ | ⟨c33, H⟩
 · refine wn_ (dF c33) (WC.exit ?_)
   obtain rfl := os H
   exact wv_ iq X25 ⟨i23, Ho22, rfl, HS⟩
 refine wy_ (dT c33) (WC.skip (via_ hK32 (WC.seq fun _ hK34 => ?_)))
 refine WC.block (sr_ fun _ hK35 => ?_)
 refine mv_ ?_
 obtain ⟨⟨q36, q37⟩, H⟩ := if_some H
 obtain ⟨ad38, rfl⟩ := C_open (HS.getO 2 rfl) (lenpos q36 q37)
 refine v_ (ia_ underlying22 1 q36 q37) ?_
 refine v_ (Run.load rfl rfl underlying3 rfl (int_cell (HS.getO 2 rfl) i23 q36 q37)) ?_
 refine as_ ?_
 refine ad_ hK35 ?_
 refine WC.seq fun _ hK39 => ?_
 refine WC.drawS HS [] rfl rfl (fun w40 HS => ?_)
 have HB := Below.refl w40.heap.size w40
 have HSW := HS
 refine dm_ 0 ?_
 refine df_ 1 underlying58 ?_
 refine bl_ 2 HS (Below.refl _ _) 1 underlying22 rfl ?_
 refine dp_ 3 (fun _ => Run.len (ts := #[]) rfl underlying22 rfl) ?_
 refine dp_ 4 (fun _ => Run.bin rfl rfl rfl bin_sub64) ?_
 obtain ⟨t41, ha42, H⟩ := bind_some H
 refine dcs0_ HS HB 5 (w_none rfl) func77 (impl_in.calls (x1.f0.getD i23.toNat 0) 0 (wrap64 ((x0.f0.length : Int) - 1)) t41 _ ha42) (fun w43 HS HB => ?_)
 clear ha42
 refine dp_ 6 (fun _ => Run.not rfl rfl) ?_
 refine dm_ 7 ?_
 rcases eti_ H with ⟨c44, H⟩ | ⟨c44, H⟩
 · refine doTs_ 6 39 [8, 9, 10, 11, 12, 13] [40, 41, 42, 43, 44, 45] (nB (bF c44)) ?_
   refine dp_ 14 (fun _ => Run.pickT rfl rfl (nB (bF c44)) rfl) ?_
   refine dm_ 15 ?_
   refine doTs_ 6 47 [16, 17, 18, 19, 20, 21] [48, 49, 50, 51, 52, 53] rfl ?_
   refine dp_ 22 (fun _ => Run.pickT rfl rfl rfl rfl) ?_
   refine dm_ 23 ?_
   refine doTs_ 10 55 [24, 25, 26, 27, 28, 29, 30, 31, 32, 33] [56, 57, 58, 59, 60, 61, 62, 63, 64, 65] rfl ?_
   refine dp_ 34 (fun _ => Run.pickT rfl rfl rfl rfl) ?_
   refine dd_ ?_
   clear HB HSW
   refine via_ hK39 (wy_ rfl ?_)
   refine sr_ fun _ hK73 => ?_
   refine ad_ hK73 ?_
   refine WC.ret ?_
   obtain rfl := os H
   rw [hG20] at Ho22
   replace H : some _ = some _ := Ho22
   obtain rfl := os H
   exact fin1 Try.f124 rfl rfl hR_ ⟨rfl, HS.b⟩
 refine dfg_ 8 (nB c44) underlying58 ?_
 refine dg_ 10 (nB c44) (fun _ => Run.move rfl rfl) ?_
 refine blg_ 9 (nB c44) HSW HB 1 underlying22 rfl ?_
 obtain ⟨⟨q45, q46⟩, H⟩ := if_some H
 obtain ⟨ad47, rfl⟩ := C_open (HS.getO 0 rfl) (lenpos q45 q46)
 refine dg_ 11 (nB c44) (fun _ => Run.indexAddr rfl rfl rfl underlying22 (sz := 1) (by kernel_rfl) q45 q46) ?_
 refine dh_ 12 (nB c44) HB (fun w_ hw_ => Run.load rfl rfl underlying3 rfl (int_cell ((HSW.below hw_).getO 0 rfl) (x1.f0.getD i23.toNat 0) q45 q46)) ?_
 refine dg_ 13 (nB c44) (fun _ => Run.bin rfl rfl rfl bin_eql) ?_
 refine dp_ 14 (fun _ => Run.pickF rfl rfl (nB c44) rfl) ?_
 refine dm_ 15 ?_
 rcases ite_ H with ⟨c48, H⟩ | ⟨c48, H⟩
 · refine doTs_ 6 47 [16, 17, 18, 19, 20, 21] [48, 49, 50, 51, 52, 53] (eT c48) ?_
   refine dp_ 22 (fun _ => Run.pickT rfl rfl (eT c48) rfl) ?_
   refine dm_ 23 ?_
   refine doTs_ 10 55 [24, 25, 26, 27, 28, 29, 30, 31, 32, 33] [56, 57, 58, 59, 60, 61, 62, 63, 64, 65] rfl ?_
   refine dp_ 34 (fun _ => Run.pickT rfl rfl rfl rfl) ?_
   refine dd_ ?_
   clear HB HSW
   refine via_ hK39 (wy_ rfl ?_)
   refine sr_ fun _ hK49 => ?_
   refine ad_ hK49 ?_
   refine WC.ret ?_
   obtain rfl := os H
   rw [hG20] at Ho22
   replace H : some _ = some _ := Ho22
   obtain rfl := os H
   exact fin1 Try.f124 rfl rfl hR_ ⟨rfl, HS.b⟩
 refine dfg_ 16 (eF c48) underlying67 ?_
 refine dg_ 18 (eF c48) (fun _ => Run.move rfl rfl) ?_
 refine dg_ 20 (eF c48) (fun _ => Run.move rfl rfl) ?_
 refine blg_ 17 (eF c48) HSW HB 0 underlying22 rfl ?_
 obtain ⟨⟨q50, q51⟩, H⟩ := if_some H
 obtain ⟨A52, c53, he54, le55, hf56⟩ := slc_take kI (some ad38) c1_0 x1.f0 i23 q50 q51 hc1_0
 replace HS := HS.deriveO (p := (cF kI A52 (x1.f0.take i23.toNat))) (fun W_ hO_ hN_ => hf56 W_ hO_.2.2.1)
 refine dg_ 19 (eF c48) (fun _ => Run.eqv he54 (Run.slH rfl underlying22 (by kernel_rfl) rfl rfl q50 (Int.le_trans q51 (Int.ofNat_le.mpr hc1_0)))) ?_
 obtain ⟨t57, ha58, H⟩ := bind_some H
 refine dcs_ HS HB 21 (w_on rfl rfl rfl (eF c48)) func150 (slices_Contains_int_int.runs k30 A52 c53 (x1.f0.take i23.toNat) (x1.f0.getD i23.toNat 0) t57 _ (HS.getO 0 rfl) le55 ha58) (fun w59 HS HB => ?_)
 clear ha58
 refine dp_ 22 (fun _ => Run.pickF rfl rfl (eF c48) rfl) ?_
 refine dm_ 23 ?_
 rcases ite_ H with ⟨c60, H⟩ | ⟨c60, H⟩
 · refine doTs_ 10 55 [24, 25, 26, 27, 28, 29, 30, 31, 32, 33] [56, 57, 58, 59, 60, 61, 62, 63, 64, 65] c60 ?_
   refine dp_ 34 (fun _ => Run.pickT rfl rfl c60 rfl) ?_
   refine dd_ ?_
   clear HB HSW
   refine via_ hK39 (wy_ rfl ?_)
   refine sr_ fun _ hK61 => ?_
   refine ad_ hK61 ?_
   refine WC.ret ?_
   obtain rfl := os H
   rw [hG20] at Ho22
   replace H : some _ = some _ := Ho22
   obtain rfl := os H
   exact fin1 Try.f124 rfl rfl hR_ ⟨rfl, HS.b⟩
 refine dfg_ 24 (bF c60) underlying58 ?_
 refine dg_ 26 (bF c60) (fun _ => Run.move rfl rfl) ?_
 refine dg_ 31 (bF c60) (fun _ => Run.move rfl rfl) ?_
 refine blg_ 25 (bF c60) HSW HB 1 underlying56 rfl ?_
 obtain ⟨⟨q62, q63⟩, H⟩ := if_some H
 obtain ⟨ad64, rfl⟩ := C_open (HS.getO 2 rfl) (lenpos q62 q63)
 refine dg_ 27 (bF c60) (fun _ => Run.indexAddr rfl rfl rfl underlying56 (sz := 1) (by kernel_rfl) q62 q63) ?_
 obtain ⟨A65, c66, le67, HSW⟩ := HSW.slO 1 rfl (x1.f0.getD i23.toNat 0) q62 q63
 replace HS := HS.carry2O HSW HB
 refine dh_ 28 (bF c60) HB (fun w_ hw_ => Run.load rfl rfl underlying71 rfl ((HSW.below hw_).getO 1 rfl)) ?_
 refine dg_ 29 (bF c60) (fun _ => Run.len (ts := #[]) rfl underlying71 rfl) ?_
 refine dh_ 30 (bF c60) HB (fun w_ hw_ => Run.loadS (cs := [.slice (some ad38) x1.f0.length c1_0, vi x1.f1]) rfl rfl underlying67 rfl (by kernel_rfl) (box_part ((HSW.below hw_).mu 0 rfl) part_all)) ?_
 obtain ⟨t68, ha69, H⟩ := bind_some H
 refine dcs_ HS HB 32 (w_on rfl rfl rfl (bF c60)) func148 (impl_lastCells.runs k30 (⟨x1.f0, x1.f1⟩ : S67) (some ad38) c1_0 i23 t68 _ (HS.getO 5 rfl) hc1_0 ha69) (fun w70 HS HB => ?_)
 clear ha69
 refine dg_ 33 (bF c60) (fun _ => Run.bin rfl rfl rfl bin_lss) ?_
 refine dp_ 34 (fun _ => Run.pickF rfl rfl (bF c60) rfl) ?_
 refine dd_ ?_
 clear HB HSW
 refine via_ hK39 ?_
 rcases eti_ H with ⟨c71, H⟩ | ⟨c71, H⟩
 · refine wn_ (dF c71) (WC.skip (via_ hK34 (rg_ (b_ bin_add64 ?_))))
   refine mv_ ?_
   refine WL.done ?_
   exact wr_ k30 iq ⟨(wrap64 (i23 + 1)), ⟨_, H, Ho22⟩, rfl, (St.pk HS [3, 4, 5] [] rfl rfl)⟩
 refine wy_ (dT c71) (sr_ fun _ hK72 => ?_)
 refine ad_ hK72 ?_
 refine WC.ret ?_
 obtain rfl := os H
 rw [hG20] at Ho22
 replace H : some _ = some _ := Ho22
 obtain rfl := os H
 exact fin1 Try.f124 rfl rfl hR_ ⟨rfl, HS.b⟩
def impl_TableOk.g (k : Nat) (x0 : S58) (x1 : S67) : Option Bool := ((impl_StoreOk.g k (⟨x0.f0, x0.f1⟩ : S58)).bind fun t7 => (if t7 = true then ((impl_tableOk.g k (⟨x0.f0, x0.f1⟩ : S58) (⟨x1.f0, x1.f1⟩ : S67)).bind fun t11 => (some t11)) else (some false)))
theorem impl_TableOk.runs (k : Nat) (x0 : S58) (A0_0 : Option Addr) (c0_0 : Nat) (A0_1 : Option Addr) (c0_1 : Nat) (x1 : S67) (A1_0 : Option Addr) (c1_0 : Nat) (r : Bool) (w : World) (hr0_0 : kI.C w A0_0 x0.f0.length x0.f0) (hc0_0 : x0.f0.length ≤ c0_0) (hr0_1 : kS62.C w A0_1 x0.f1.length x0.f1) (hc0_1 : x0.f1.length ≤ c0_1) (hr1_0 : kI.C w A1_0 x1.f0.length x1.f0) (hc1_0 : x1.f0.length ≤ c1_0) (H : impl_TableOk.g k x0 x1 = some r) :
   Calls prog 57 #[.agg #[.slice A0_0 x0.f0.length c0_0, .slice A0_1 x0.f1.length c0_1], .agg #[.slice A1_0 x1.f0.length c1_0, vi x1.f1]] w fun e w' => e = .returned (.bool r) ∧ Below w.heap.size w w' := by
 unfold impl_TableOk.g at H
 have HS : St (fun _ => True) w w [] [(cF kI A0_0 x0.f0), (cF kS62 A0_1 x0.f1), (cF kI A1_0 x1.f0)] [] := St.start (foot_cons (foot_C (Kd.heap_int _) hr0_0) (foot_cons (foot_C (Kd.heap_slice _ h62) hr0_1) (foot_cons (foot_C (Kd.heap_int _) hr1_0) foot_nil)))
 refine cw_ (n := 12) func57 fun R_ hR_ => ?_
 refine sr_ fun _ hK1 => ?_
 refine bo_ HS (fun b2 w3 hb2 HS => ?_)
 refine bo_ HS (fun b4 w5 hb4 HS => ?_)
 refine ad_ hK1 ?_
 refine sr_ fun _ hK6 => ?_
 refine v_ (ls_ (HS.mu 1 rfl) underlying58 part_all) ?_
 obtain ⟨t7, ha8, H⟩ := bind_some H
 refine cs_ HS func47 (impl_StoreOk.runs k (⟨x0.f0, x0.f1⟩ : S58) A0_0 c0_0 A0_1 c0_1 t7 _ (HS.getO 0 rfl) hc0_0 (HS.getO 1 rfl) hc0_1 ha8) (fun w9 HS => ?_)
 clear ha8
 refine mv_ ?_
 rcases eti_ H with ⟨c10, H⟩ | ⟨c10, H⟩
 · refine off_ (c' := false) (bF c10) ?_
   refine WL.know 7 (bF c10) ?_
   refine fast_ ?_
   refine via_ hK6 ?_
   obtain rfl := os H
   exact rt1 Try.f57 rfl rfl hR_ ⟨rfl, HS.b⟩
 refine on_ c10 ?_
 refine v_ (ls_ (HS.mu 1 rfl) underlying58 part_all) ?_
 refine on_ c10 ?_
 refine v_ (ls_ (HS.mu 0 rfl) underlying67 part_all) ?_
 refine on_ c10 ?_
 obtain ⟨t11, ha12, H⟩ := bind_some H
 refine cs_ HS func124 (impl_tableOk.runs k (⟨x0.f0, x0.f1⟩ : S58) A0_0 c0_0 A0_1 c0_1 (⟨x1.f0, x1.f1⟩ : S67) A1_0 c1_0 t11 _ (HS.getO 0 rfl) hc0_0 (HS.getO 1 rfl) hc0_1 (HS.getO 2 rfl) hc1_0 ha12) (fun w13 HS => ?_)
 clear ha12
 refine v_ (Run.pickT rfl rfl c10 rfl) ?_
 refine ad_ hK6 ?_
 obtain rfl := os H
 exact rt1 Try.f57 rfl rfl hR_ ⟨rfl, HS.b⟩
def slices_Clone_int_int.g0 (k : Nat) (l0 : List Int) : Option (List Int) := (if (0) + (l0.length) < 4294967296 then (some (([] : List Int) ++ l0)) else none)
theorem slices_Clone_int_int.runs0 (k : Nat) (ad0 : Addr) (c0 : Nat) (l0 : List Int) (r : List Int) (w : World) (hr0 : kI.C w (some ad0) l0.length l0) (hc0 : l0.length ≤ c0) (H : slices_Clone_int_int.g0 k l0 = some r) :
   Calls prog 78 #[.slice (some ad0) l0.length c0] w fun e w' => ∃ (v0_ : Value) (bl0_ : List Nat), e = .returned (v0_) ∧ Owns w' w.heap.size [valM (Dk.slice 3 (Dk.int .i64)) r [v0_] bl0_] ∧ Below w.heap.size w w' := by
 unfold slices_Clone_int_int.g0 at H
 have HS : St (fun _ => True) w w [] [(cF kI (some ad0) l0)] [] := St.start (foot_cons (foot_C (Kd.heap_int _) hr0) foot_nil)
 refine cw_ (n := 8) func78 fun R_ hR_ => ?_
 refine sr_ fun _ hK1 => ?_
 refine ad_ hK1 ?_
 refine WC.seq fun _ hK2 => ?_
 refine sr_ fun _ hK3 => ?_
 refine mv_ ?_
 refine v_ (Run.eqNil rfl rfl rfl underlying22) ?_
 refine dn_ hK3 (wn_ rfl ?_)
 refine WC.skip (via_ hK2 (sr_ fun _ hK4 => ?_))
 refine WL.lit0 HS rfl rfl (by decide) rfl underlying22 (sz := 1) (by kernel_rfl) (fun v5 w6 HS => ?_)
 replace HS := HS.deriveN (p := (rF kI ([] : List Int) [])) (fun _ _ => Reps.none _ _)
 refine mv_ ?_
 obtain ⟨q7, H⟩ := if_some H
 obtain ⟨L8, hl9, h10, hF11, hc12⟩ := foot_all (HS.footO 0 rfl) (by decide) rfl
 replace HS := HS.addN (p := (rF kI l0 L8)) (fun W_ _ => hF11.now)
 refine WL.appendL HS 0 rfl rfl rfl (by decide) rfl (vi 0) 8 underlying22 (by kernel_rfl) rfl (by decide) (by decide) rfl rfl L8 hl9 hc12 h10 (by omega) ((([] : List Int) ++ l0).length) (by simp <;> omega) (fun v13 w14 I15 hI16 HS => ?_)
 dsimp only [List.set] at HS
 replace HS := HS.deriveN (p := (rF kI (([] : List Int) ++ l0) I15)) (fun W_ hN_ => reps_more hI16 hN_.2.1 hN_.1)
 refine ad_ hK4 ?_
 refine WC.ret ?_
 obtain ⟨A17, c18, rfl⟩ := row_slice (HS.mu 0 rfl)
 replace HS := HS.elsF (xs := (([] : List Int) ++ l0)) (inner := I15) (Dk.int .i64) (fun _ _ _ h_ => ⟨h_, rfl⟩) (fun _ => (HS.getN 0 rfl))
 replace HS := HS.front 1 rfl
 dsimp only [List.eraseIdx] at HS
 replace HS := HS.seal rfl rfl
 obtain rfl := os H
 exact fin1 Try.f78 rfl rfl hR_ ⟨_, _, rfl, (St.owns HS), HS.b⟩
def slices_Clone_int_int.g (k : Nat) (l0 : List Int) : Option (List Int) := if l0.length < 4294967296 then some l0 else none
theorem slices_Clone_int_int.runs (k : Nat) (A0 : Option Addr) (c0 : Nat) (l0 r : List Int) (w : World) (hr0 : kI.C w A0 l0.length l0) (hc0 : l0.length ≤ c0) (H : slices_Clone_int_int.g k l0 = some r) :
   Calls prog 78 #[.slice A0 l0.length c0] w fun e w' => ∃ (v0_ : Value) (bl0_ : List Nat), e = .returned (v0_) ∧ Owns w' w.heap.size [valM (Dk.slice 3 (Dk.int .i64)) r [v0_] bl0_] ∧ Below w.heap.size w w' := by
 unfold slices_Clone_int_int.g at H
 obtain ⟨q, H⟩ := if_some H
 obtain rfl := os H
 cases A0 with
 | some ad => exact slices_Clone_int_int.runs0 k ad c0 _ _ w hr0 hc0 (by unfold slices_Clone_int_int.g0; rw [if_pos (by omega)]; rfl)
 | none =>
   obtain rfl := C_nilL hr0
   have HS : St (fun _ => True) w w [] [] [] := St.start foot_nil
   refine cw_ (n := 8) func78 fun R_ hR_ => ?_
   refine sr_ fun _ hK1 => ?_
   refine ad_ hK1 ?_
   refine WC.seq fun _ hK2 => ?_
   refine sr_ fun _ hK3 => ?_
   refine mv_ ?_
   refine v_ (Run.eqNil rfl rfl rfl underlying22) ?_
   refine dn_ hK3 (wy_ rfl ?_)
   refine sr_ fun _ hK4 => ?_
   refine ad_ hK4 ?_
   refine WC.ret ?_
   exact fin1 Try.f78 rfl rfl hR_ ⟨_, _, rfl, St.owns (HS.nilV (α := Int) 3 (Dk.int .i64)), HS.b⟩
theorem slices_Clone_impl_Part_impl_Part.st {ok0 : Nat → Prop} {w0 : World} {ms : List Mu} {fo fn : List Fact} (A0 : Option Addr) (c0 : Nat) (l0 : List S149) (w : World) (HS : St ok0 w0 w ms ((cF k149 A0 l0) :: fo) fn) (hl : l0.length < 4294967296) :
   Calls prog 160 #[.slice A0 l0.length c0] w fun e w' => ∃ (v : Value) (I : List Value), e = .returned (v) ∧ St ok0 w0 w' (rowM w0.heap.size 149 2 v l0.length I :: ms) ((rF k149 l0 I) :: fo) fn := by
 refine cw_ (n := 8) func160 fun R_ hR_ => ?_
 refine sr_ fun _ hK1 => ?_
 refine ad_ hK1 ?_
 refine WC.seq fun _ hK2 => ?_
 refine sr_ fun _ hK3 => ?_
 refine mv_ ?_
 refine v_ (Run.eqNil rfl rfl rfl underlying133) ?_
 cases A0 with
 | some ad =>
   refine dn_ hK3 (wn_ rfl ?_)
   refine WC.skip (via_ hK2 (sr_ fun _ hK4 => ?_))
   refine WL.lit0 HS rfl rfl (by decide) rfl underlying133 (sz := 2) (by kernel_rfl) (fun v5 w6 HS => ?_)
   refine mv_ ?_
   obtain ⟨L8, hl9, h10, hF11, hc12⟩ := foot_all (HS.footO 0 rfl) (by decide) rfl
   replace HS := HS.addO (p := (rF k149 l0 L8)) hF11
   refine WL.appendL HS 0 rfl rfl rfl (by decide) rfl (.agg #[vi 0, sn]) 32 underlying133 (by kernel_rfl) rfl (by decide) (by decide) rfl rfl L8 hl9 hc12 h10 (by omega) (l0.length) (by omega) (fun v13 w14 I15 hI16 HS => ?_)
   dsimp only [List.set] at HS
   rw [List.nil_append] at hI16
   subst hI16
   refine ad_ hK4 ?_
   refine WC.ret ?_
   exact fin1 Try.f160 rfl rfl hR_ ⟨_, _, rfl, HS.pickO (fun W h => ⟨h.1, h.2.2⟩)⟩
 | none =>
   obtain rfl := C_nilL (HS.getO 0 rfl)
   refine dn_ hK3 (wy_ rfl ?_)
   refine sr_ fun _ hK4 => ?_
   refine ad_ hK4 ?_
   refine WC.ret ?_
   exact fin1 Try.f160 rfl rfl hR_ ⟨_, _, rfl, ((HS.rowNil 149 2).deriveO (p := (rF k149 ([] : List S149) [])) (fun _ _ _ => Reps.none _ _)).pickO (fun W h => ⟨h.1, h.2.2⟩)⟩
def impl_cloneParts.g (k : Nat) (l0 : List (List S149)) : Option (List (List S149)) := if l0.length < 4294967296 ∧ (l0.all fun l => decide (l.length < 4294967296) && l.all fun p => decide (p.f1.length < 4294967296)) = true then some l0 else none
theorem impl_cloneParts.runs (k : Nat) (A0 : Option Addr) (c0 : Nat) (l0 r : List (List S149)) (w : World) (hr0 : kS149.C w A0 l0.length l0) (hc0 : l0.length ≤ c0) (H : impl_cloneParts.g k l0 = some r) :
   Calls prog 143 #[.slice A0 l0.length c0] w fun e w' => ∃ (v0_ : Value) (bl0_ : List Nat), e = .returned (v0_) ∧ Owns w' w.heap.size [valM (Dk.slice 133 (Dk.slice 149 dq149)) r [v0_] bl0_] ∧ Below w.heap.size w w' := by
 unfold impl_cloneParts.g at H
 obtain ⟨⟨hn, hq⟩, H⟩ := if_some H
 obtain rfl := os H
 clear H
 have hq1 : ∀ i, i < l0.length → (l0.getD i []).length < 4294967296 ∧ ∀ x, x ∈ l0.getD i [] → x.f1.length < 4294967296 := fun i hi => by
   have hm : l0.getD i [] ∈ l0 := by rw [List.getD_eq_getElem?_getD, List.getElem?_eq_getElem hi]; exact List.getElem_mem hi
   have h1 := List.all_eq_true.mp hq _ hm
   rw [Bool.and_eq_true] at h1
   exact ⟨of_decide_eq_true h1.1, fun x hx => of_decide_eq_true (List.all_eq_true.mp h1.2 x hx)⟩
 clear hq
 have HS : St (fun _ => True) w w [] [(cF kS149 A0 l0)] [] := St.start (foot_cons (foot_C (Kd.heap_slice _ h149) hr0) foot_nil)
 clear hr0
 refine cw_ (n := 38) func143 fun R_ hR_ => ?_
 refine sr_ fun _ hK1 => ?_
 refine ad_ hK1 ?_
 refine sr_ fun _ hK2 => ?_
 refine ad_ hK2 ?_
 refine WC.seq fun _ hK3 => ?_
 refine sr_ fun _ hK4 => ?_
 refine mv_ ?_
 refine ln_ underlying60 ?_
 refine mv_ ?_
 refine dn_ hK4 ?_
 refine WC.block ?_
 replace HS := HS.rowNil 133 1
 replace HS := HS.els0 (Dk.slice 149 dq149)
 refine WC.loop (fun k_ E_ W_ => ∃ (i : Nat) (v : Value) (I : List Value) (bl : List Nat), k_ + i = l0.length ∧ E_ = [(3, v), (9, .slice A0 l0.length c0), (10, vi (l0.length : Int)), (11, vi (i : Int))] ∧ St (fun _ => True) w W_ [elsM (Dk.slice 149 dq149) (l0.take i) I bl, rowM w.heap.size 133 1 v i I] [(cF kS149 A0 l0)] []) l0.length ⟨0, _, _, _, rfl, rfl, HS⟩ (sb rfl) ?_
 rintro k_ E_ w1 ⟨i, v, I, bl, hk, rfl, HS⟩
 refine sr_ fun _ hK6 => ?_
 refine b_ bin_lss ?_
 refine dn_ hK6 ?_
 refine WC.seq fun _ hK7 => ?_
 by_cases hlt : (i : Int) < (l0.length : Int)
 · refine wy_ (dT hlt) (WC.skip (via_ hK7 ?_))
   obtain ⟨k1, rfl⟩ : ∃ k1, k_ = k1 + 1 := ⟨k_ - 1, by omega⟩
   have hil : i < l0.length := by omega
   obtain ⟨hl1, hl2⟩ := hq1 i hil
   obtain ⟨ad, rfl⟩ := C_open (HS.getO 0 rfl) (by omega)
   obtain ⟨A1, c1, hc1, HS⟩ := HS.slO 0 rfl (i : Int) (Int.natCast_nonneg _) hlt
   rw [Int.toNat_natCast] at HS hc1
   have htk : l0.take (i + 1) = l0.take i ++ [l0.getD i []] := by rw [List.take_add_one, List.getElem?_eq_getElem hil, List.getD_eq_getElem?_getD, List.getElem?_eq_getElem hil]; rfl
   generalize l0.getD i [] = l at *
   refine WC.seq fun _ hK8 => ?_
   refine WC.block ?_
   refine sr_ fun _ hK9 => ?_
   refine v_ (ia_ underlying60 1 (Int.natCast_nonneg _) hlt) ?_
   refine v_ (Run.load rfl rfl underlying133 rfl (HS.getO 1 rfl)) ?_
   refine ad_ hK9 ?_
   refine sr_ fun _ hK10 => ?_
   refine mv_ ?_
   refine c_ func160 (slices_Clone_impl_Part_impl_Part.st A1 c1 l _ HS hl1) ?_
   clear HS
   rintro _ w2 ⟨v6, I6, rfl, HS⟩
   refine ⟨_, rfl, ?_⟩
   refine ad_ hK10 ?_
   obtain ⟨A6, c6, rfl⟩ := row_slice (HS.mu 0 rfl)
   replace HS := (HS.els0 dq149).pickO (fo' := [(rF k149 l I6), (cF kS149 (some ad) l0)]) (fun W h => ⟨h.1, h.2.2.1, trivial⟩)
   refine WC.seq fun _ hK11 => ?_
   refine sr_ fun _ hK12 => ?_
   refine mv_ ?_
   refine ln_ underlying133 ?_
   refine mv_ ?_
   refine dn_ hK12 ?_
   refine WC.block ?_
   refine WC.loop (fun k2_ E_ W_ => ∃ (j : Nat) (P S : List Value) (b2 : List Nat), k2_ + j = l.length ∧ P.length = j * 2 ∧ E_ = [(3, v), (6, .slice A6 l.length c6), (9, .slice (some ad) l0.length c0), (10, vi (l0.length : Int)), (11, vi (i : Int)), (17, .slice A6 l.length c6), (18, vi (l.length : Int)), (19, vi (j : Int))] ∧ St (fun _ => True) w W_ [elsM dq149 (l.take j) P b2, rowM w.heap.size 149 2 (.slice A6 l.length c6) l.length (P ++ S), elsM (Dk.slice 149 dq149) (l0.take i) I bl, rowM w.heap.size 133 1 v i I] [(rF k149 (l.drop j) S), (cF kS149 (some ad) l0)] []) l.length ⟨0, [], I6, _, rfl, rfl, rfl, HS⟩ (sb rfl) ?_
   clear HS
   rintro k2_ E_ w3 ⟨j, P, S, b2, hk2, hP, rfl, HS⟩
   refine sr_ fun _ hK13 => ?_
   refine b_ bin_lss ?_
   refine dn_ hK13 ?_
   refine WC.seq fun _ hK14 => ?_
   by_cases hlt2 : (j : Int) < (l.length : Int)
   · refine wy_ (dT hlt2) (WC.skip (via_ hK14 ?_))
     obtain ⟨k3, rfl⟩ : ∃ k3, k2_ = k3 + 1 := ⟨k2_ - 1, by omega⟩
     have hjl : j < l.length := by omega
     obtain ⟨x, hx1, hx2, hx3⟩ : ∃ x, l.drop j = x :: l.drop (j + 1) ∧ l.take (j + 1) = l.take j ++ [x] ∧ x ∈ l := ⟨l[j], List.drop_eq_getElem_cons hjl, by rw [List.take_add_one, List.getElem?_eq_getElem hjl]; rfl, List.getElem_mem hjl⟩
     have hlx := hl2 x hx3
     rw [hx1] at HS
     obtain ⟨A7, c7, S', rfl, hle7⟩ : ∃ A7 c7 S', S = vi x.f0 :: .slice A7 x.f1.length c7 :: S' ∧ x.f1.length ≤ c7 := by
       obtain ⟨hKx, hS'⟩ := reps_uncons (HS.getO 0 rfl)
       obtain ⟨c0', c1', e0, rfl, A7, c7, rfl, hle, _⟩ := hKx
       refine ⟨A7, c7, S.drop 2, ?_, hle⟩
       conv => lhs; rw [← List.take_append_drop 2 S]
       rw [show S.take 2 = [vi x.f0] ++ [.slice A7 x.f1.length c7] from e0]
       rfl
     replace HS := HS.deriveO (p := (rF k149 (l.drop (j + 1)) S')) (fun W hO _ => (reps_uncons hO.1).2)
     replace HS := HS.deriveO (p := (cF kI A7 x.f1)) (fun W hO _ => by
       obtain ⟨c0', c1', e0, rfl, A8, c8, rfl, _, hC⟩ := (reps_uncons hO.2.1).1
       have e1 : [Value.int .i64 x.f0, .slice A7 x.f1.length c7] = [vi x.f0] ++ [.slice A8 x.f1.length c8] := e0
       injection e1 with _ e1
       injection e1 with e1
       injection e1 with e1
       subst e1
       exact hC)
     replace HS := HS.pickO (fo' := [(cF kI A7 x.f1), (rF k149 (l.drop (j + 1)) S'), (cF kS149 (some ad) l0)]) (fun W h => ⟨h.1, h.2.1, h.2.2.2.1, trivial⟩)
     obtain ⟨ad6, rfl⟩ := row_open (HS.mu 1 rfl) (Nat.lt_of_le_of_lt (Nat.zero_le _) hjl)
     refine WC.seq fun _ hK15 => ?_
     refine WC.block ?_
     refine sr_ fun _ hK16 => ?_
     refine mv_ ?_
     refine v_ (ia_ underlying133 2 (Int.natCast_nonneg _) hlt2) ?_
     refine v_ (Run.loadS (cs := [vi x.f0, .slice A7 x.f1.length c7]) rfl rfl underlying149 rfl (by kernel_rfl) (fun o u hu => by
       rw [XLoad.add_add, Int.toNat_natCast]
       refine row_cell (HS.mu 1 rfl) ?_
       rw [List.getElem?_append_right (by omega), show j * 2 + o - P.length = o by omega]
       have ho : o < 2 := (List.getElem?_eq_some_iff.1 hu).1
       have e9 : (Value.int .i64 x.f0 :: Value.slice A7 x.f1.length c7 :: S') = [Value.int .i64 x.f0, Value.slice A7 x.f1.length c7] ++ S' := rfl
       rw [e9, List.getElem?_append_left (by exact ho)]
       exact hu)) ?_
     refine WL.alloc HS (v := .agg #[vi 0, sn]) (cs := #[vi 0, sn]) rfl rfl (by decide) rfl (by kernel_rfl) rfl (fun b w4 hb HS => ?_)
     refine as_ ?_
     refine WL.storeW HS 0 rfl rfl rfl rfl rfl rfl (one_cons rfl (one_cons rfl one_nil)) (by kernel_rfl) rfl (fun w5 HS => ?_)
     dsimp only [List.set] at HS
     refine dn_ hK16 ?_
     refine rg_ ?_
     refine mv_ ?_
     refine mv_ ?_
     refine v_ (fa_ underlying149) ?_
     refine v_ (lb_ (HS.mu 0 rfl) underlying22 rfl) ?_
     refine c_ func78 (slices_Clone_int_int.runs k A7 c7 x.f1 x.f1 _ (HS.getO 0 rfl) hle7 (by unfold slices_Clone_int_int.g; rw [if_pos hlx])) ?_
     rintro _ w6 ⟨v8, b8, rfl, hO_, hb_⟩
     replace HS := HS.got hb_ hO_
     clear hO_ hb_
     dsimp only [List.cons_append, List.nil_append] at HS
     obtain ⟨A8, c8, rfl, _⟩ := val_slice (HS.mu 0 rfl)
     refine ⟨_, rfl, ?_⟩
     refine v_ (ia_ underlying133 2 (Int.natCast_nonneg _) hlt2) ?_
     refine v_ (Run.fieldAddr rfl rfl underlying149 rfl (by kernel_rfl) (XLoad.add_add _ _ _)) ?_
     refine WL.putEl HS 3 rfl rfl rfl rfl rfl rfl [.slice A8 x.f1.length c8] rfl (one_cons rfl one_nil) (by kernel_rfl) (show (j : Int).toNat * 2 + 1 + 1 ≤ l.length * 2 from mul_room (Int.natCast_nonneg _) hlt2 2) (fun w7 I9 hI9 HS => ?_)
     dsimp only [List.set] at HS
     have hI : I9 = (P ++ [vi x.f0, .slice A8 x.f1.length c8]) ++ S' := by
       rw [hI9, show P ++ (Value.int .i64 x.f0 :: Value.slice A7 x.f1.length c7 :: S') = (P ++ [vi x.f0]) ++ ([.slice A7 x.f1.length c7] ++ S') by simp]
       exact (cut_mid (P := P ++ [vi x.f0]) (cs := [.slice A7 x.f1.length c7]) (S := S') (vs := [.slice A8 x.f1.length c8]) (by show (j : Int).toNat * 2 + 1 = _; rw [List.length_append, hP, Int.toNat_natCast]; rfl) rfl).trans (by simp)
     subst hI
     replace HS := HS.put0 (valM dq149 x [vi x.f0, .slice A8 x.f1.length c8] b8) (fun hP_ => foot_val (dq149_mk _ x hP_)) (fun h_ => h_) (fun _ h_ => h_)
     replace HS := St.forget HS 1 rfl
     dsimp only [List.eraseIdx] at HS
     replace HS := HS.elsSnoc rfl
     refine dn_ hK15 ?_
     refine rg_ ?_
     refine b_ bin_add64 ?_
     rw [wrap_succ hjl hl1]
     refine mv_ ?_
     refine WL.done ?_
     rw [← hx2] at HS
     exact wr_ k3 iq ⟨j + 1, _, S', _, by omega, by rw [List.length_append, hP]; simp; omega, rfl, HS.pickO (fun W h => h.2)⟩
   · refine wn_ (dF hlt2) (WC.exit (via_ hK11 ?_))
     obtain rfl : j = l.length := by omega
     have hS : S = [] := List.eq_nil_of_length_eq_zero (by have := (HS.getO 0 rfl : Reps _ _ _ _).1; rw [List.drop_length] at this; simpa using this)
     subst hS
     rw [List.take_length, List.append_nil] at HS
     replace HS := HS.front 1 rfl
     dsimp only [List.eraseIdx] at HS
     replace HS := HS.seal rfl rfl
     refine rg_ ?_
     refine mv_ ?_
     refine mv_ ?_
     refine WL.val rfl rfl (by decide) (Run.lit1 (z := (sn)) (vs := [.slice A6 l.length c6]) rfl rfl rfl underlying60 (by kernel_rfl) (ble_ rfl) (ble_ rfl)) ?_
     have HS1 := HS.below (below_alloc (Below.refl _ _) (.cells #[.slice A6 l.length c6] 133))
     refine WL.append HS1 2 rfl rfl rfl (by decide) rfl (sn) 24 underlying60 (by kernel_rfl) rfl (by decide) (by decide) rfl rfl [.slice A6 l.length c6] rfl (lit_news _ _ _) (one_cons rfl one_nil) (by omega) (i + 1) rfl (fun v13 w14 I15 hI16 HS => ?_)
     dsimp only [List.set] at HS
     clear HS1
     replace HS := HS.elsSnoc hI16
     rw [← htk] at HS
     refine ad_ hK8 ?_
     refine rg_ ?_
     refine b_ bin_add64 ?_
     rw [wrap_succ hil hn]
     refine mv_ ?_
     refine WL.done ?_
     exact wr_ k1 iq ⟨i + 1, v13, I15, _, by omega, rfl, HS.pickO (fun W h => h.2)⟩
 · refine wn_ (dF hlt) (WC.exit (via_ hK3 ?_))
   obtain rfl : i = l0.length := by omega
   rw [List.take_length] at HS
   replace HS := HS.front 1 rfl
   dsimp only [List.eraseIdx] at HS
   replace HS := HS.seal rfl rfl
   refine sr_ fun _ hK17 => ?_
   refine mv_ ?_
   refine ad_ hK17 ?_
   refine WC.ret ?_
   exact fin1 Try.f143 rfl rfl hR_ ⟨_, _, rfl, St.owns HS, HS.b⟩
def impl_cloneCell.g (k : Nat) (x0 : S62) : Option S62 := ((impl_cloneParts.g k x0.f0).bind fun t8 => ((impl_cloneParts.g k x0.f1).bind fun t15 => (some (⟨t8, t15⟩ : S62))))
theorem impl_cloneCell.runs (k : Nat) (x0 : S62) (A0_0 : Option Addr) (c0_0 : Nat) (A0_1 : Option Addr) (c0_1 : Nat) (r : S62) (w : World) (hr0_0 : kS149.C w A0_0 x0.f0.length x0.f0) (hc0_0 : x0.f0.length ≤ c0_0) (hr0_1 : kS149.C w A0_1 x0.f1.length x0.f1) (hc0_1 : x0.f1.length ≤ c0_1) (H : impl_cloneCell.g k x0 = some r) :
   Calls prog 108 #[.agg #[.slice A0_0 x0.f0.length c0_0, .slice A0_1 x0.f1.length c0_1]] w fun e w' => ∃ (v0_0_ : Value) (bl0_0_ : List Nat) (v0_1_ : Value) (bl0_1_ : List Nat), e = .returned (.agg #[v0_0_, v0_1_]) ∧ Owns w' w.heap.size [valM (Dk.slice 133 (Dk.slice 149 dq149)) r.f0 [v0_0_] bl0_0_, valM (Dk.slice 133 (Dk.slice 149 dq149)) r.f1 [v0_1_] bl0_1_] ∧ Below w.heap.size w w' := by
 unfold impl_cloneCell.g at H
 have HS : St (fun _ => True) w w [] [(cF kS149 A0_0 x0.f0), (cF kS149 A0_1 x0.f1)] [] := St.start (foot_cons (foot_C (Kd.heap_slice _ h149) hr0_0) (foot_cons (foot_C (Kd.heap_slice _ h149) hr0_1) foot_nil))
 refine cw_ (n := 10) func108 fun R_ hR_ => ?_
 refine sr_ fun _ hK1 => ?_
 refine bo_ HS (fun b2 w3 hb2 HS => ?_)
 refine WL.alloc HS (v := .agg #[sn, sn]) (cs := #[sn, sn]) rfl rfl (by decide) rfl (by kernel_rfl) rfl (fun b4 w5 hb4 HS => ?_)
 refine dn_ hK1 (WC.seq fun _ hK6 => ?_)
 refine WC.drawW HS [boxM b4 #[sn, sn] 62, boxM b2 #[.slice A0_0 x0.f0.length c0_0, .slice A0_1 x0.f1.length c0_1] 62] (fun _ HS => ⟨(HS.mu 0 rfl), (HS.mu 1 rfl), trivial⟩) [7] rfl rfl (fun w7 HS => ?_)
 refine df_ 0 underlying62 ?_
 refine df_ 3 underlying62 ?_
 refine dt_ 1 ⟨HS.nowO, HS.nowN, ⟨(HS.mu 0 rfl), (HS.mu 1 rfl), trivial⟩⟩ (fun w_ hw_ => Run.load rfl rfl underlying60 rfl (box_cell hw_.2.2.2.1 rfl)) ?_
 refine dt_ 4 ⟨HS.nowO, HS.nowN, ⟨(HS.mu 0 rfl), (HS.mu 1 rfl), trivial⟩⟩ (fun w_ hw_ => Run.load rfl rfl underlying60 rfl (box_cell hw_.2.2.2.1 rfl)) ?_
 obtain ⟨t8, ha9, H⟩ := bind_some H
 refine dc_ 2 (w_none rfl) func143 (impl_cloneParts.runs k A0_0 c0_0 x0.f0 t8 _ (HS.getO 0 rfl) hc0_0 ha9) ?_
 clear ha9
 rintro _ w10 ⟨v11, bl12, rfl, hO_, hb⟩
 replace HS := HS.got hb hO_
 dsimp only [List.cons_append, List.nil_append] at HS
 clear hO_
 obtain ⟨I13, bl14, HS⟩ := HS.unseal (sz := 1) rfl
 refine ⟨⟨HS.nowO, HS.nowN, ⟨(HS.mu 2 rfl), (HS.mu 3 rfl), trivial⟩⟩, _, rfl, ?_⟩
 clear hb
 obtain ⟨t15, ha16, H⟩ := bind_some H
 refine dc_ 5 (w_none rfl) func143 (impl_cloneParts.runs k A0_1 c0_1 x0.f1 t15 _ (HS.getO 1 rfl) hc0_1 ha16) ?_
 clear ha16
 rintro _ w17 ⟨v18, bl19, rfl, hO_, hb⟩
 replace HS := HS.got hb hO_
 dsimp only [List.cons_append, List.nil_append] at HS
 clear hO_
 obtain ⟨I20, bl21, HS⟩ := HS.unseal (sz := 1) rfl
 refine ⟨⟨HS.nowO, HS.nowN, ⟨(HS.mu 4 rfl), (HS.mu 5 rfl), trivial⟩⟩, _, rfl, ?_⟩
 clear hb
 obtain ⟨A22, c23, rfl⟩ := row_slice (HS.mu 2 rfl)
 obtain ⟨A24, c25, rfl⟩ := row_slice (HS.mu 0 rfl)
 refine db_ 6 [(0, (.slice A22 t8.length c23)), (1, (.slice A24 t15.length c25))] (cells := #[(.slice A22 t8.length c23), (.slice A24 t15.length c25)]) rfl rfl ⟨⟨rfl, rfl⟩, ⟨⟨rfl, rfl⟩, trivial⟩⟩ (by kernel_rfl) ?_
 refine WD.storeSL 7 HS 4 rfl rfl rfl rfl (oneL rfl) (by kernel_rfl) (ble_ rfl) (cs' := #[(.slice A22 t8.length c23), (.slice A24 t15.length c25)]) (by kernel_rfl) (fun w26 HS => ?_)
 dsimp only [List.set] at HS
 refine dd_ (via_ hK6 (WC.ret ?_))
 replace HS := HS.front 3 rfl
 dsimp only [List.eraseIdx] at HS
 replace HS := HS.front 3 rfl
 dsimp only [List.eraseIdx] at HS
 replace HS := HS.seal rfl rfl
 replace HS := HS.front 2 rfl
 dsimp only [List.eraseIdx] at HS
 replace HS := HS.front 2 rfl
 dsimp only [List.eraseIdx] at HS
 replace HS := HS.seal rfl rfl
 obtain rfl := os H
 exact fin1 Try.f108 rfl ⟨_, rfl, resv_box (HS.mu 2 rfl) underlying62 rfl (by kernel_rfl)⟩ hR_ ⟨_, _, _, _, rfl, (St.owns (St.front (St.front (St.forget (St.forget HS 3 rfl) 2 rfl) 0 rfl) 1 rfl)), HS.b⟩
def impl_cloneCells.b0 (l0 : List S62) (rec_ : (List S62) → Int → Option ((List S62) × Int)) (k22 : Nat) (xs9 : List S62) (i13 : Int) : Option ((List S62) × Int) := (if i13 < (l0.length : Int) then (if 0 ≤ i13 ∧ i13 < (l0.length : Int) then ((impl_cloneCell.g k22 (⟨(l0.getD i13.toNat o62).f0, (l0.getD i13.toNat o62).f1⟩ : S62)).bind fun t44 => (if (xs9.length) < 4294967296 then (rec_ (xs9 ++ [t44]) (wrap64 (i13 + 1))) else none)) else none) else (some (xs9, i13)))
def impl_cloneCells.l0 (l0 : List S62) : Nat → (List S62) → Int → Option ((List S62) × Int)
 | 0, _, _ => none
 | k + 1, xs9, i13 => impl_cloneCells.b0 l0 (impl_cloneCells.l0 l0 k) k xs9 i13
def impl_cloneCells.g (k : Nat) (l0 : List S62) : Option (List S62) := ((impl_cloneCells.l0 l0 k ([] : List S62) 0).bind (fun oc20 => (some oc20.1)))
theorem impl_cloneCells.runs (k : Nat) (A0 : Option Addr) (c0 : Nat) (l0 : List S62) (r : List S62) (w : World) (hr0 : k62.C w A0 l0.length l0) (hc0 : l0.length ≤ c0) (H : impl_cloneCells.g k l0 = some r) :
   Calls prog 107 #[.slice A0 l0.length c0] w fun e w' => ∃ (v0_ : Value) (bl0_ : List Nat), e = .returned (v0_) ∧ Owns w' w.heap.size [valM (Dk.slice 62 dq62) r [v0_] bl0_] ∧ Below w.heap.size w w' := by
 unfold impl_cloneCells.g at H
 have HS : St (fun _ => True) w w [] [(cF k62 A0 l0)] [] := St.start (foot_cons (foot_C h62 hr0) foot_nil)
 refine cw_ (n := 19) func107 fun R_ hR_ => ?_
 refine sr_ fun _ hK1 => ?_
 refine ad_ hK1 ?_
 refine sr_ fun _ hK2 => ?_
 refine ad_ hK2 ?_
 refine WC.seq fun K3 hK3 => ?_
 refine sr_ fun _ hK4 => ?_
 refine mv_ ?_
 refine ln_ underlying71 ?_
 refine mv_ ?_
 refine dn_ hK4 (WC.block ?_)
 replace HS := HS.rowNil 62 2
 replace HS := HS.els0 (dq62)
 obtain ⟨G5, hG6, oc7, H, Ho8⟩ := open_G H
 let J14 := fun (xs9 : List S62) v10 I11 bl12 (i13 : Int) (E_ : Env) (W_ : World) => E_ = [(3, v10), (6, .slice A0 l0.length c0), (7, vi (l0.length : Int)), (8, vi i13)] ∧ St (fun _ => True) w W_ [elsM dq62 xs9 I11 bl12, rowM w.heap.size 62 2 v10 xs9.length I11] [(cF k62 A0 l0)] []
 have X15 : ∀ E_ W_, (∃ xs9 v10 I11 bl12 i13, G5 (xs9, i13) = some r ∧ J14 xs9 v10 I11 bl12 i13 E_ W_) → ∀ a, Fits a 19 E_ → K3 a W_ := by
   rintro E_ w16 ⟨xs9, v10, I11, bl12, i13, H, rfl, HS⟩
   rw [hG6] at H
   (try dsimp only at H)
   refine hK3 _ _ ?_
   refine sr_ fun _ hK17 => ?_
   refine mv_ ?_
   refine ad_ hK17 ?_
   refine WC.ret ?_
   obtain ⟨A18, c19, rfl⟩ := row_slice (HS.mu 1 rfl)
   replace HS := HS.front 1 rfl
   dsimp only [List.eraseIdx] at HS
   replace HS := HS.seal rfl rfl
   obtain rfl := os H
   exact fin1 Try.f107 rfl rfl hR_ ⟨_, _, rfl, (St.owns HS), HS.b⟩
 clear hK3
 refine WC.loop (fun k_ E_ W_ => ∃ xs9 v10 I11 bl12 i13, (∃ o_, impl_cloneCells.l0 l0 k_ xs9 i13 = some o_ ∧ G5 o_ = some r) ∧ J14 xs9 v10 I11 bl12 i13 E_ W_) k ⟨([] : List S62), (sn), ([]), ([]), 0, ⟨_, H, Ho8⟩, rfl, HS⟩ (sb rfl) ?_
 rintro k_ E_ w21 ⟨xs9, v10, I11, bl12, i13, ⟨oc7, H, Ho8⟩, rfl, HS⟩
 rcases k_ with _ | k22
 · exact no_ H
 replace H : impl_cloneCells.b0 l0 (impl_cloneCells.l0 l0 k22) k22 xs9 i13 = some oc7 := H
 unfold impl_cloneCells.b0 at H
 refine sr_ fun _ hK23 => ?_
 refine b_ bin_lss ?_
 refine dn_ hK23 (WC.seq fun _ hK24 => ?_)
 rcases eti_ H with ⟨c25, H⟩ | ⟨c25, H⟩
 · refine wn_ (dF c25) (WC.exit ?_)
   obtain rfl := os H
   exact wv_ iq X15 ⟨xs9, v10, I11, bl12, i13, Ho8, rfl, HS⟩
 refine wy_ (dT c25) (WC.skip (via_ hK24 (WC.seq fun _ hK26 => ?_)))
 refine WC.block (sr_ fun _ hK27 => ?_)
 obtain ⟨⟨q28, q29⟩, H⟩ := if_some H
 obtain ⟨ad30, rfl⟩ := C_open (HS.getO 0 rfl) (lenpos q28 q29)
 refine v_ (ia_ underlying71 2 q28 q29) ?_
 obtain ⟨e31, el32, HS⟩ := HS.elO 0 rfl (by decide) o62 i13 q28 q29
 obtain ⟨A33, c34, hc35, le36, HS⟩ := HS.eO 0 rfl at62_0
 obtain ⟨A37, c38, hc39, le40, HS⟩ := HS.eO 1 rfl at62_1
 refine v_ (Run.loadS (cs := [.slice A33 ((l0.getD i13.toNat o62).f0.length) c34, .slice A37 ((l0.getD i13.toNat o62).f1.length) c38]) rfl rfl underlying62 rfl (by kernel_rfl) (cells_part (HS.getO 2 rfl).2 (part_cons hc35 (part_cons hc39 part_nil)))) ?_
 refine WL.alloc HS (v := .agg #[sn, sn]) (cs := #[sn, sn]) rfl rfl (by decide) rfl (by kernel_rfl) rfl (fun b41 w42 hb41 HS => ?_)
 refine WL.storeW HS 0 rfl rfl rfl rfl rfl rfl (oneL rfl) (by kernel_rfl) rfl (fun w43 HS => ?_)
 dsimp only [List.set] at HS
 refine dn_ hK27 (rg_ (mv_ ?_))
 refine v_ (ls_ (HS.mu 0 rfl) underlying62 part_all) ?_
 obtain ⟨t44, ha45, H⟩ := bind_some H
 refine c_ func108 (impl_cloneCell.runs k22 (⟨(l0.getD i13.toNat o62).f0, (l0.getD i13.toNat o62).f1⟩ : S62) A33 c34 A37 c38 t44 _ (HS.getO 1 rfl) le36 (HS.getO 0 rfl) le40 ha45) ?_
 clear ha45
 rintro _ w46 ⟨v47, bl48, v49, bl50, rfl, hO_, hb⟩
 replace HS := HS.got hb hO_
 dsimp only [List.cons_append, List.nil_append] at HS
 clear hO_
 obtain ⟨I51, bl52, HS⟩ := HS.unseal (sz := 1) rfl
 replace HS := HS.front 2 rfl
 dsimp only [List.eraseIdx] at HS
 obtain ⟨I53, bl54, HS⟩ := HS.unseal (sz := 1) rfl
 refine ⟨_, rfl, ?_⟩
 clear hb
 obtain ⟨A55, c56, rfl⟩ := row_slice (HS.mu 2 rfl)
 obtain ⟨A57, c58, rfl⟩ := row_slice (HS.mu 0 rfl)
 refine WL.val rfl rfl (by decide) (Run.lit1 (z := (.agg #[sn, sn])) (vs := [(.slice A55 t44.f0.length c56), (.slice A57 t44.f1.length c58)]) rfl rfl rfl underlying71 (by kernel_rfl) (ble_ rfl) (ble_ rfl)) ?_
 have HS1 := HS.below (below_alloc (Below.refl _ _) (.cells #[(.slice A55 t44.f0.length c56), (.slice A57 t44.f1.length c58)] 62))
 obtain ⟨q59, H⟩ := if_some H
 refine WL.append HS1 6 rfl rfl rfl (by decide) rfl (.agg #[sn, sn]) 48 underlying71 (by kernel_rfl) rfl (by decide) (by decide) rfl rfl [(.slice A55 t44.f0.length c56), (.slice A57 t44.f1.length c58)] rfl (lit_news _ _ _) (oneL rfl) (by omega) ((xs9 ++ [t44]).length) (by simp) (fun v60 w61 I62 hI63 HS => ?_)
 dsimp only [List.set] at HS
 clear HS1
 replace HS := HS.front 3 rfl
 dsimp only [List.eraseIdx] at HS
 replace HS := HS.front 3 rfl
 dsimp only [List.eraseIdx] at HS
 replace HS := HS.seal rfl rfl
 replace HS := HS.front 2 rfl
 dsimp only [List.eraseIdx] at HS
 replace HS := HS.front 2 rfl
 dsimp only [List.eraseIdx] at HS
 replace HS := HS.seal rfl rfl
 replace HS := HS.front 1 rfl
 dsimp only [List.eraseIdx] at HS
 replace HS := HS.both
 replace HS := HS.put0 (valM dq62 t44 ([(.slice A55 t44.f0.length c56), (.slice A57 t44.f1.length c58)]) ((((.slice A55 t44.f0.length c56) : Value).ownBlock.toList ++ bl52) ++ (((.slice A57 t44.f1.length c58) : Value).ownBlock.toList ++ bl54))) (fun hP_ => foot_val (dq62_mk _ t44 hP_.1 hP_.2)) (fun h_ => h_) (fun _ h_ => h_)
 replace HS := HS.front 2 rfl
 dsimp only [List.eraseIdx] at HS
 replace HS := HS.front 1 rfl
 dsimp only [List.eraseIdx] at HS
 replace HS := HS.elsSnoc hI63
 refine ad_ hK26 ?_
 refine rg_ (b_ bin_add64 ?_)
 refine mv_ ?_
 refine WL.done ?_
 exact wr_ k22 iq ⟨(xs9 ++ [t44]), v60, I62, (bl12 ++ ((((.slice A55 t44.f0.length c56) : Value).ownBlock.toList ++ bl52) ++ (((.slice A57 t44.f1.length c58) : Value).ownBlock.toList ++ bl54))), (wrap64 (i13 + 1)), ⟨_, H, Ho8⟩, rfl, (St.pk (St.forget HS 1 rfl) [3] [] rfl rfl)⟩
end Go.Proofs.Ytlpginalgdbopaa.PFnBlocks
