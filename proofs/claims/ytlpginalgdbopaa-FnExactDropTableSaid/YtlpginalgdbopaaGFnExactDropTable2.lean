/- Functions that the statement reaches, as Lean functions, and the proof that a call of each comes to just its answer; written by this claim's own program. No conditions. -/
import Derived.Test.YtlpginalgdbopaaGFnExactDropTable1
namespace Go.Proofs.Ytlpginalgdbopaa.PFnExactDropTable
open Try
open Go.RowKit Go.Proofs.YtlpginalgdbopaaW.PrintWords Go.Proofs.YtlpginalgdbopaaW.PrintLast Go.Proofs.YtlpginalgdbopaaW.PrintMore Go.Proofs.Ytlpginalgdbopaa.XW Go.Proofs.Ytlpginalgdbopaa.XOp Go.Proofs.Ytlpginalgdbopaa.XSt Go.Proofs.Ytlpginalgdbopaa.XDraw
set_option linter.unusedVariables false
set_option linter.unusedSimpArgs false
set_option maxHeartbeats 4000000
set_option maxRecDepth 20000
def spec_DropTable.b0 (x1 : S67) (rec_ : Int → (List Int) → (List (List S62)) → Option (Int × (List Int) × (List (List S62)))) (k58 : Nat) (i39 : Int) (xs40 : List Int) (xs43 : List (List S62)) : Option (Int × (List Int) × (List (List S62))) := (if i39 < (x1.f0.length : Int) then (((if 0 ≤ i39 ∧ i39 < (x1.f0.length : Int) then ((spec_DropPage.g k58 xs40 (x1.f0.getD i39.toNat 0)).bind fun t84 => (if 0 ≤ (x1.f0.getD i39.toNat 0) ∧ (x1.f0.getD i39.toNat 0) < ((t84.1.length : Nat) : Int) then (if (t84.1.getD (x1.f0.getD i39.toNat 0).toNat 0) = 0 then (if 0 ≤ (x1.f0.getD i39.toNat 0) ∧ (x1.f0.getD i39.toNat 0) < ((xs43.length : Nat) : Int) then (some (t84.1, (xs43.set (x1.f0.getD i39.toNat 0).toNat ([] : List S62)))) else none) else (some (t84.1, xs43))) else none)) else none) : Option ((List Int) × (List (List S62)))).bind (fun oc76 => (rec_ (wrap64 (i39 + 1)) oc76.1 oc76.2))) else (some (i39, xs40, xs43)))
def spec_DropTable.l0 (x1 : S67) : Nat → Int → (List Int) → (List (List S62)) → Option (Int × (List Int) × (List (List S62)))
 | 0, _, _, _ => none
 | k + 1, i39, xs40, xs43 => spec_DropTable.b0 x1 (spec_DropTable.l0 x1 k) k i39 xs40 xs43
def spec_DropTable.g (k : Nat) (x0 : S58) (x1 : S67) : Option (S58 × Bool) := ((spec_TableOk.g k (⟨x0.f0, x0.f1⟩ : S58) (⟨x1.f0, x1.f1⟩ : S67)).bind fun t10 => (if t10 = true then ((spec_l15Copy.g k (⟨x0.f0, x0.f1⟩ : S58)).bind fun t15 => ((spec_DropTable.l0 x1 k 0 t15.f0 t15.f1).bind (fun oc56 => (some ((⟨oc56.2.1, oc56.2.2⟩ : S58), true))))) else (some ((⟨[], []⟩ : S58), false))))
theorem spec_DropTable.runs (k : Nat) (x0 : S58) (A0_0 : Option Addr) (c0_0 : Nat) (A0_1 : Option Addr) (c0_1 : Nat) (x1 : S67) (A1_0 : Option Addr) (c1_0 : Nat) (r1 : S58) (r2 : Bool) (w : World) (hr0_0 : kI.C w A0_0 x0.f0.length x0.f0) (hc0_0 : x0.f0.length ≤ c0_0) (hr0_1 : kS62.C w A0_1 x0.f1.length x0.f1) (hc0_1 : x0.f1.length ≤ c0_1) (hr1_0 : kI.C w A1_0 x1.f0.length x1.f0) (hc1_0 : x1.f0.length ≤ c1_0) (H : spec_DropTable.g k x0 x1 = some (r1, r2)) :
   Calls prog 69 #[.agg #[.slice A0_0 x0.f0.length c0_0, .slice A0_1 x0.f1.length c0_1], .agg #[.slice A1_0 x1.f0.length c1_0, vi x1.f1]] w fun e w' => ∃ (v0_0_ : Value) (bl0_0_ : List Nat) (v0_1_ : Value) (bl0_1_ : List Nat), e = .returned (.tuple #[.agg #[v0_0_, v0_1_], .bool r2]) ∧ Owns w' w.heap.size [valM (Dk.slice 3 (Dk.int .i64)) r1.f0 [v0_0_] bl0_0_, valM (Dk.slice 71 (Dk.slice 62 dq62)) r1.f1 [v0_1_] bl0_1_] ∧ Below w.heap.size w w' := by
 unfold spec_DropTable.g at H
 have HS : St (fun _ => True) w w [] [(cF kI A0_0 x0.f0), (cF kS62 A0_1 x0.f1), (cF kI A1_0 x1.f0)] [] := St.start (foot_cons (foot_C (Kd.heap_int _) hr0_0) (foot_cons (foot_C (Kd.heap_slice _ h62) hr0_1) (foot_cons (foot_C (Kd.heap_int _) hr1_0) foot_nil)))
 refine cw_ (n := 54) func69 fun R_ hR_ => ?_
 refine sr_ fun _ hK1 => ?_
 refine bo_ HS (fun b2 w3 hb2 HS => ?_)
 refine bo_ HS (fun b4 w5 hb4 HS => ?_)
 refine WL.alloc HS (v := .agg #[sn, sn]) (cs := #[sn, sn]) rfl rfl (by decide) rfl (by kernel_rfl) rfl (fun b6 w7 hb6 HS => ?_)
 refine ad_ hK1 ?_
 exact by (
 clear hK1
 refine WC.seq fun _ hK8 => ?_
 refine sr_ fun _ hK9 => ?_
 refine v_ (ls_ (HS.mu 2 rfl) underlying58 part_all) ?_
 refine v_ (ls_ (HS.mu 1 rfl) underlying67 part_all) ?_
 obtain ⟨t10, ha11, H⟩ := bind_some H
 refine cs_ HS func52 (spec_TableOk.runs k (⟨x0.f0, x0.f1⟩ : S58) A0_0 c0_0 A0_1 c0_1 (⟨x1.f0, x1.f1⟩ : S67) A1_0 c1_0 t10 _ (HS.getO 0 rfl) hc0_0 (HS.getO 1 rfl) hc0_1 (HS.getO 2 rfl) hc1_0 ha11) (fun w12 HS => ?_)
 clear ha11
 exact by (
 refine nt_ ?_
 refine dn_ hK9 ?_
 clear hK9
 rcases eti_ H with ⟨c13, H⟩ | ⟨c13, H⟩
 · refine wy_ (nB (bF c13)) (sr_ fun _ hK116 => ?_)
   refine v_ (Run.build (cells := #[sn, sn]) rfl [] trivial (by kernel_rfl)) ?_
   refine WL.storeW HS 0 rfl rfl rfl rfl rfl rfl (oneL rfl) (by kernel_rfl) rfl (fun w117 HS => ?_)
   dsimp only [List.set] at HS
   exact by (
   refine ad_ hK116 ?_
   clear hK116
   refine WC.ret ?_
   replace HS := HS.nilV (α := Int) 3 (Dk.int .i64)
   replace HS := HS.nilV (α := List S62) 71 (Dk.slice 62 dq62)
   obtain ⟨rfl, rfl⟩ := Prod.mk.inj (os H)
   exact fin2 Try.f69 rfl ⟨_, rfl, resv_box (HS.mu 2 rfl) underlying58 rfl (by kernel_rfl)⟩ rfl hR_ ⟨_, _, _, _, rfl, (St.owns (St.front (St.front (St.forget (St.forget (St.forget HS 4 rfl) 3 rfl) 2 rfl) 0 rfl) 1 rfl)), HS.b⟩ )
 refine wn_ (nB c13) (WC.skip (via_ hK8 (sr_ fun _ hK14 => ?_)))
 exact by (
 clear hK8
 refine v_ (ls_ (HS.mu 2 rfl) underlying58 part_all) ?_
 obtain ⟨t15, ha16, H⟩ := bind_some H
 refine c_ func111 (spec_l15Copy.runs k (⟨x0.f0, x0.f1⟩ : S58) A0_0 c0_0 A0_1 c0_1 t15 _ (HS.getO 0 rfl) hc0_0 (HS.getO 1 rfl) hc0_1 ha16) ?_
 clear ha16
 rintro _ w17 ⟨v18, bl19, v20, bl21, rfl, hO_, hb⟩
 replace HS := HS.got hb hO_
 dsimp only [List.cons_append, List.nil_append] at HS
 exact by (
 clear hO_
 obtain ⟨I22, bl23, HS⟩ := HS.unseal (sz := 1) rfl
 replace HS := HS.freezeN 1 (p := (rF kI t15.f0 I22)) rfl (fun _ hP_ _ => RepsB.reps hP_)
 dsimp only [List.eraseIdx] at HS
 replace HS := HS.front 1 rfl
 dsimp only [List.eraseIdx] at HS
 obtain ⟨I24, bl25, HS⟩ := HS.unseal (sz := 1) rfl
 refine ⟨_, rfl, ?_⟩
 exact by (
 clear hb
 refine WL.alloc HS (v := .agg #[sn, sn]) (cs := #[sn, sn]) rfl rfl (by decide) rfl (by kernel_rfl) rfl (fun b26 w27 hb26 HS => ?_)
 obtain ⟨A29, c30, rfl⟩ := row_slice (HS.mu 3 rfl)
 obtain ⟨A31, c32, rfl⟩ := row_slice (HS.mu 1 rfl)
 refine WL.storeW HS 0 rfl rfl rfl rfl rfl rfl (oneL rfl) (by kernel_rfl) rfl (fun w28 HS => ?_)
 dsimp only [List.set] at HS
 refine dn_ hK14 (WC.seq fun K33 hK33 => ?_)
 clear hK14
 exact by (
 refine sr_ fun _ hK34 => ?_
 refine ad_ hK34 ?_
 clear hK34
 refine WC.block ?_
 obtain ⟨G35, hG36, oc37, H, Ho38⟩ := open_G H
 let J47 := fun (i39 : Int) (xs40 : List Int) v41 I42 (xs43 : List (List S62)) v44 I45 bl46 (E_ : Env) (W_ : World) => E_ = [(3, .pointer (some ⟨b4, 0, none⟩)), (4, .pointer (some ⟨b6, 0, none⟩)), (6, .pointer (some ⟨b26, 0, none⟩)), (7, vi i39)] ∧ St (fun _ => True) w W_ [boxM b26 #[v41, v44] 58, rowM w.heap.size 71 1 v44 xs43.length I45, elsM (Dk.slice 62 dq62) xs43 I45 bl46, rowM w.heap.size 3 1 v41 xs40.length I42, boxM b6 #[sn, sn] 58, boxM b4 #[.slice A1_0 x1.f0.length c1_0, vi x1.f1] 67, boxM b2 #[.slice A0_0 x0.f0.length c0_0, .slice A0_1 x0.f1.length c0_1] 58] [(cF kI A0_0 x0.f0), (cF kS62 A0_1 x0.f1), (cF kI A1_0 x1.f0)] [(rF kI xs40 I42)]
 have X48 : ∀ E_ W_, (∃ i39 xs40 v41 I42 xs43 v44 I45 bl46, G35 (i39, xs40, xs43) = some (r1, r2) ∧ J47 i39 xs40 v41 I42 xs43 v44 I45 bl46 E_ W_) → ∀ a, Fits a 54 E_ → K33 a W_ := by
   rintro E_ w49 ⟨i39, xs40, v41, I42, xs43, v44, I45, bl46, H, rfl, HS⟩
   exact by (
   rw [hG36] at H
   (try dsimp only at H)
   refine hK33 _ _ ?_
   clear hK33
   refine sr_ fun _ hK50 => ?_
   obtain ⟨A51, c52, rfl⟩ := row_slice (HS.mu 3 rfl)
   obtain ⟨A53, c54, rfl⟩ := row_slice (HS.mu 1 rfl)
   refine v_ (ls_ (HS.mu 0 rfl) underlying58 part_all) ?_
   exact by (
   refine WL.storeW HS 4 rfl rfl rfl rfl rfl rfl (oneL rfl) (by kernel_rfl) rfl (fun w55 HS => ?_)
   dsimp only [List.set] at HS
   refine ad_ hK50 ?_
   clear hK50
   refine WC.ret ?_
   replace HS := HS.elsF (xs := xs40) (inner := I42) (Dk.int .i64) (fun _ _ _ h_ => ⟨h_, rfl⟩) (fun _ => (HS.getN 0 rfl))
   replace HS := HS.front 4 rfl
   dsimp only [List.eraseIdx] at HS
   exact by (
   replace HS := HS.seal rfl rfl
   replace HS := HS.front 3 rfl
   dsimp only [List.eraseIdx] at HS
   replace HS := HS.front 3 rfl
   dsimp only [List.eraseIdx] at HS
   replace HS := HS.seal rfl rfl
   obtain ⟨rfl, rfl⟩ := Prod.mk.inj (os H)
   exact fin2 Try.f69 rfl ⟨_, rfl, resv_box (HS.mu 3 rfl) underlying58 rfl (by kernel_rfl)⟩ rfl hR_ ⟨_, _, _, _, rfl, (St.owns (St.front (St.front (St.forget (St.forget (St.forget (St.forget HS 5 rfl) 4 rfl) 3 rfl) 2 rfl) 0 rfl) 1 rfl)), HS.b⟩ )))
 exact by (
 clear hK33
 refine WC.loop (fun k_ E_ W_ => ∃ i39 xs40 v41 I42 xs43 v44 I45 bl46, (∃ o_, spec_DropTable.l0 x1 k_ i39 xs40 xs43 = some o_ ∧ G35 o_ = some (r1, r2)) ∧ J47 i39 xs40 v41 I42 xs43 v44 I45 bl46 E_ W_) k ⟨0, t15.f0, (.slice A29 t15.f0.length c30), I22, t15.f1, (.slice A31 t15.f1.length c32), I24, bl25, ⟨_, H, Ho38⟩, rfl, HS⟩ (sb rfl) ?_
 rintro k_ E_ w57 ⟨i39, xs40, v41, I42, xs43, v44, I45, bl46, ⟨oc37, H, Ho38⟩, rfl, HS⟩
 rcases k_ with _ | k58
 · exact no_ H
 replace H : spec_DropTable.b0 x1 (spec_DropTable.l0 x1 k58) k58 i39 xs40 xs43 = some oc37 := H
 unfold spec_DropTable.b0 at H
 refine WC.seq fun _ hK59 => ?_
 exact by (
 refine sr_ fun _ hK60 => ?_
 refine mv_ ?_
 refine v_ (fa_ underlying67) ?_
 refine v_ (lb_ (HS.mu 5 rfl) underlying22 rfl) ?_
 refine ln_ underlying22 ?_
 refine b_ bin_lss ?_
 refine dn_ hK60 ?_
 clear hK60
 exact by (
 rcases eti_ H with ⟨c61, H⟩ | ⟨c61, H⟩
 · refine wn_ (dF c61) (WC.exit ?_)
   obtain rfl := os H
   exact wv_ iq X48 ⟨i39, xs40, v41, I42, xs43, v44, I45, bl46, Ho38, rfl, HS⟩
 refine wy_ (dT c61) (WC.skip (via_ hK59 (WC.seq fun K62 hK62 => ?_)))
 clear hK59
 obtain ⟨G63, hG64, oc65, H, Ho66⟩ := open_G H
 have X74 : ∀ E_ W_, (∃ (xs67 : List Int) (v68 : Value) (I69 : List Value) (xs70 : List (List S62)) (v71 : Value) (I72 : List Value) (bl73 : List Nat), E_ = [(3, .pointer (some ⟨b4, 0, none⟩)), (4, .pointer (some ⟨b6, 0, none⟩)), (6, .pointer (some ⟨b26, 0, none⟩)), (7, vi i39)] ∧ G63 (xs67, xs70) = some oc37 ∧ St (fun _ => True) w W_ [boxM b26 #[v68, v71] 58, rowM w.heap.size 71 1 v71 xs70.length I72, elsM (Dk.slice 62 dq62) xs70 I72 bl73, rowM w.heap.size 3 1 v68 xs67.length I69, boxM b6 #[sn, sn] 58, boxM b4 #[.slice A1_0 x1.f0.length c1_0, vi x1.f1] 67, boxM b2 #[.slice A0_0 x0.f0.length c0_0, .slice A0_1 x0.f1.length c0_1] 58] [(cF kI A0_0 x0.f0), (cF kS62 A0_1 x0.f1), (cF kI A1_0 x1.f0)] [(rF kI xs67 I69)]) → ∀ a, Fits a 54 E_ → K62 a W_ := by
   exact by (
   rintro E_ w75 ⟨xs67, v68, I69, xs70, v71, I72, bl73, rfl, H, HS⟩
   rw [hG64] at H
   (try dsimp only at H)
   refine hK62 _ _ ?_
   clear hK62
   refine rg_ (mv_ ?_)
   refine b_ bin_add64 ?_
   refine as_ ?_
   exact by (
   refine WL.done ?_
   exact wr_ k58 iq ⟨(wrap64 (i39 + 1)), xs67, v68, I69, xs70, v71, I72, bl73, ⟨_, H, Ho38⟩, rfl, HS⟩ ))
 clear hK62
 refine WC.block (WC.seq fun _ hK77 => ?_)
 refine WC.drawW HS [boxM b26 #[v41, v44] 58, rowM w.heap.size 71 1 v44 xs43.length I45, rowM w.heap.size 3 1 v41 xs40.length I42, boxM b6 #[sn, sn] 58, boxM b4 #[.slice A1_0 x1.f0.length c1_0, vi x1.f1] 67, boxM b2 #[.slice A0_0 x0.f0.length c0_0, .slice A0_1 x0.f1.length c0_1] 58] (fun _ HS => ⟨(HS.mu 0 rfl), (HS.mu 1 rfl), (HS.mu 3 rfl), (HS.mu 4 rfl), (HS.mu 5 rfl), (HS.mu 6 rfl), trivial⟩) [12] rfl rfl (fun w78 HS => ?_)
 refine df_ 0 underlying58 ?_
 refine df_ 2 underlying67 ?_
 refine dm_ 4 ?_
 exact by (
 obtain ⟨A79, c80, rfl⟩ := row_slice (HS.mu 3 rfl)
 refine dt_ 1 ⟨HS.nowO, HS.nowN, ⟨(HS.mu 0 rfl), (HS.mu 1 rfl), (HS.mu 3 rfl), (HS.mu 4 rfl), (HS.mu 5 rfl), (HS.mu 6 rfl), trivial⟩⟩ (fun w_ hw_ => Run.load rfl rfl underlying22 rfl (box_cell hw_.2.2.1 rfl)) ?_
 refine dt_ 3 ⟨HS.nowO, HS.nowN, ⟨(HS.mu 0 rfl), (HS.mu 1 rfl), (HS.mu 3 rfl), (HS.mu 4 rfl), (HS.mu 5 rfl), (HS.mu 6 rfl), trivial⟩⟩ (fun w_ hw_ => Run.load rfl rfl underlying22 rfl (box_cell hw_.2.2.2.2.2.2.1 rfl)) ?_
 obtain ⟨⟨q81, q82⟩, H⟩ := if_some H
 obtain ⟨ad83, rfl⟩ := C_open (HS.getO 2 rfl) (by omega)
 refine di_ 5 underlying22 1 q81 q82 ?_
 refine dt_ 6 ⟨HS.nowO, HS.nowN, ⟨(HS.mu 0 rfl), (HS.mu 1 rfl), (HS.mu 3 rfl), (HS.mu 4 rfl), (HS.mu 5 rfl), (HS.mu 6 rfl), trivial⟩⟩ (fun w_ hw_ => Run.load rfl rfl underlying3 rfl (int_cell (AllF.get 2 rfl hw_.1) i39 q81 q82)) ?_
 obtain ⟨t84, ha85, H⟩ := bind_some H
 exact by (
 refine dc_ 7 (w_none rfl) func116 (spec_DropPage.runs k58 A79 c80 xs40 (x1.f0.getD i39.toNat 0) t84.1 t84.2 _ (row_C rfl (HS.mu 3 rfl) (HS.getN 0 rfl)) (row_le (HS.mu 3 rfl)) ha85) ?_
 clear ha85
 rintro _ w86 ⟨v87, bl88, rfl, hO_, hb⟩
 replace HS := HS.got hb hO_
 dsimp only [List.cons_append, List.nil_append] at HS
 clear hO_
 obtain ⟨I89, bl90, HS⟩ := HS.unseal (sz := 1) rfl
 replace HS := HS.freezeN 1 (p := (rF kI t84.1 I89)) rfl (fun _ hP_ _ => RepsB.reps hP_)
 exact by (
 dsimp only [List.eraseIdx] at HS
 refine ⟨⟨HS.nowO, HS.nowN.2, ⟨(HS.mu 1 rfl), (HS.mu 2 rfl), (HS.mu 4 rfl), (HS.mu 5 rfl), (HS.mu 6 rfl), (HS.mu 7 rfl), trivial⟩⟩, _, rfl, ?_⟩
 clear hb
 refine dm_ 8 ?_
 refine dp_ 9 (fun _ => Run.extract rfl rfl rfl) ?_
 refine dp_ 10 (fun _ => Run.extract rfl rfl rfl) ?_
 refine df_ 11 underlying58 ?_
 obtain ⟨A92, c93, rfl⟩ := row_slice (HS.mu 0 rfl)
 exact by (
 refine WD.storeL 12 HS 1 rfl rfl rfl rfl rfl (by kernel_rfl) (ble_ rfl) (cs' := #[(.slice A92 t84.1.length c93), v44]) (by kernel_rfl) (fun w91 HS => ?_)
 dsimp only [List.set] at HS
 refine dd_ (via_ hK77 (WC.seq fun _ hK94 => ?_))
 clear hK77
 refine WC.drawS HS [] rfl rfl (fun w95 HS => ?_)
 have HB := Below.refl w95.heap.size w95
 have HSW := HS
 refine df_ 0 underlying58 ?_
 exact by (
 refine df_ 2 underlying67 ?_
 refine dm_ 4 ?_
 refine bl_ 1 HS (Below.refl _ _) 1 underlying22 rfl ?_
 refine bl_ 3 HS (Below.refl _ _) 6 underlying22 rfl ?_
 refine di_ 5 underlying22 1 q81 q82 ?_
 refine dt_ 6 (Below.refl _ _) (fun w_ hw_ => Run.load rfl rfl underlying3 rfl (int_cell ((HS.below hw_).getO 2 rfl) i39 q81 q82)) ?_
 obtain ⟨⟨q96, q97⟩, H⟩ := if_some H
 obtain ⟨ad98, rfl⟩ := row_open (HS.mu 0 rfl) (by omega)
 exact by (
 refine di_ 7 underlying22 1 q96 q97 ?_
 refine dt_ 8 (Below.refl _ _) (fun w_ hw_ => Run.load rfl rfl underlying3 rfl (row_int ((HS.below hw_).mu 0 rfl) ((HS.below hw_).getN 0 rfl) q96 q97)) ?_
 refine dp_ 9 (fun _ => Run.bin rfl rfl rfl bin_eql) ?_
 refine dd_ ?_
 clear HB HSW
 refine via_ hK94 ?_
 clear hK94
 rcases eti_ H with ⟨c99, H⟩ | ⟨c99, H⟩
 · refine wn_ (eF c99) (WC.skip ?_)
   obtain rfl := os H
   exact wv_ iq X74 ⟨t84.1, (.slice (some ad98) t84.1.length c93), I89, xs43, v44, I45, bl46, rfl, Ho66, (St.pk (St.front (St.front (St.front (St.front (St.front (St.front (St.front (St.forget HS 4 rfl) 6 rfl) 6 rfl) 6 rfl) 3 rfl) 6 rfl) 6 rfl) 6 rfl) [0, 1, 2] [0] rfl rfl)⟩
 exact by (
 refine wy_ (eT c99) (WC.drawW HS [rowM w.heap.size 3 1 (.slice (some ad98) t84.1.length c93) t84.1.length I89, boxM b26 #[(.slice (some ad98) t84.1.length c93), v44] 58, rowM w.heap.size 71 1 v44 xs43.length I45, rowM w.heap.size 3 1 (.slice A79 xs40.length c80) xs40.length I42, boxM b6 #[sn, sn] 58, boxM b4 #[.slice (some ad83) x1.f0.length c1_0, vi x1.f1] 67, boxM b2 #[.slice A0_0 x0.f0.length c0_0, .slice A0_1 x0.f1.length c0_1] 58] (fun _ HS => ⟨(HS.mu 0 rfl), (HS.mu 1 rfl), (HS.mu 2 rfl), (HS.mu 4 rfl), (HS.mu 5 rfl), (HS.mu 6 rfl), (HS.mu 7 rfl), trivial⟩) [9] rfl rfl (fun w100 HS => ?_))
 refine df_ 0 underlying58 ?_
 refine df_ 2 underlying67 ?_
 refine dm_ 4 ?_
 obtain ⟨A101, c102, rfl⟩ := row_slice (HS.mu 2 rfl)
 refine dt_ 1 ⟨HS.nowO, HS.nowN, ⟨(HS.mu 0 rfl), (HS.mu 1 rfl), (HS.mu 2 rfl), (HS.mu 4 rfl), (HS.mu 5 rfl), (HS.mu 6 rfl), (HS.mu 7 rfl), trivial⟩⟩ (fun w_ hw_ => Run.load rfl rfl underlying56 rfl (box_cell hw_.2.2.2.1 rfl)) ?_
 refine dt_ 3 ⟨HS.nowO, HS.nowN, ⟨(HS.mu 0 rfl), (HS.mu 1 rfl), (HS.mu 2 rfl), (HS.mu 4 rfl), (HS.mu 5 rfl), (HS.mu 6 rfl), (HS.mu 7 rfl), trivial⟩⟩ (fun w_ hw_ => Run.load rfl rfl underlying22 rfl (box_cell hw_.2.2.2.2.2.2.2.1 rfl)) ?_
 refine di_ 5 underlying22 1 q81 q82 ?_
 exact by (
 refine dt_ 6 ⟨HS.nowO, HS.nowN, ⟨(HS.mu 0 rfl), (HS.mu 1 rfl), (HS.mu 2 rfl), (HS.mu 4 rfl), (HS.mu 5 rfl), (HS.mu 6 rfl), (HS.mu 7 rfl), trivial⟩⟩ (fun w_ hw_ => Run.load rfl rfl underlying3 rfl (int_cell (AllF.get 2 rfl hw_.1) i39 q81 q82)) ?_
 refine WD.lit0 7 (w_none rfl) HS rfl underlying71 (sz := 2) (by kernel_rfl) (fun v103 w104 HS => ?_)
 replace HS := HS.els0 (dq62)
 refine ⟨⟨HS.nowO, HS.nowN, ⟨(HS.mu 2 rfl), (HS.mu 3 rfl), (HS.mu 4 rfl), (HS.mu 6 rfl), (HS.mu 7 rfl), (HS.mu 8 rfl), (HS.mu 9 rfl), trivial⟩⟩, ?_⟩
 obtain ⟨⟨q105, q106⟩, H⟩ := if_some H
 obtain ⟨ad107, rfl⟩ := row_open (HS.mu 4 rfl) (by omega)
 refine di_ 8 underlying56 1 q105 q106 ?_
 obtain ⟨A111, c112, rfl⟩ := row_slice (HS.mu 1 rfl)
 exact by (
 have hk_ := mul_room q105 q106 1
 refine WD.putElL 9 HS 4 rfl rfl rfl rfl [(.slice A111 0 c112)] rfl (oneL rfl) (by kernel_rfl) (by first | omega | (rw [List.length_nil]; omega) | (simp; omega)) (fun w108 I109 hI110 HS => ?_)
 dsimp only [List.set] at HS
 clear hk_
 replace HS := HS.rowN 4 rfl (show xs43.length = (xs43.set (x1.f0.getD i39.toNat 0).toNat ([] : List S62)).length from (List.length_set ..).symm)
 dsimp only [List.set] at HS
 replace HS := HS.front 1 rfl
 dsimp only [List.eraseIdx] at HS
 exact by (
 replace HS := HS.seal rfl (by simp)
 replace HS := HS.front 4 rfl
 dsimp only [List.eraseIdx] at HS
 replace HS := HS.front 1 rfl
 dsimp only [List.eraseIdx] at HS
 obtain ⟨bl113, HS⟩ := HS.elsSet (x1.f0.getD i39.toNat 0).toNat rfl hI110 (toNat_lt q105 q106)
 generalize hv115 : (Value.slice (some ad107) xs43.length c102) = v114 at HS ⊢
 refine dd_ ?_
 obtain rfl := os H
 exact wv_ iq X74 ⟨t84.1, (.slice (some ad98) t84.1.length c93), I89, (xs43.set (x1.f0.getD i39.toNat 0).toNat ([] : List S62)), v114, I109, bl113, rfl, Ho66, (St.pk (St.front (St.front (St.front (St.front (St.front (St.front (St.front (St.forget HS 4 rfl) 6 rfl) 6 rfl) 6 rfl) 4 rfl) 4 rfl) 6 rfl) 6 rfl) [0, 1, 2] [0] rfl rfl)⟩ )))))))))))))))))))
def impl_cloneStore.b0 (x0 : S58) (rec_ : Int → (List (List S62)) → Option (Int × (List (List S62)))) (k39 : Nat) (i25 : Int) (xs26 : List (List S62)) : Option (Int × (List (List S62))) := (if i25 < (x0.f1.length : Int) then (if 0 ≤ i25 ∧ i25 < (x0.f1.length : Int) then ((impl_cloneCells.g k39 (x0.f1.getD i25.toNat [])).bind fun t54 => (if (xs26.length) < 4294967296 then (rec_ (wrap64 (i25 + 1)) (xs26 ++ [t54])) else none)) else none) else (some (i25, xs26)))
def impl_cloneStore.l0 (x0 : S58) : Nat → Int → (List (List S62)) → Option (Int × (List (List S62)))
 | 0, _, _ => none
 | k + 1, i25, xs26 => impl_cloneStore.b0 x0 (impl_cloneStore.l0 x0 k) k i25 xs26
def impl_cloneStore.g (k : Nat) (x0 : S58) : Option S58 := ((slices_Clone_int_int.g k x0.f0).bind fun t7 => ((impl_cloneStore.l0 x0 k 0 ([] : List (List S62))).bind (fun oc37 => (some (⟨t7, oc37.2⟩ : S58)))))
theorem impl_cloneStore.runs (k : Nat) (x0 : S58) (A0_0 : Option Addr) (c0_0 : Nat) (A0_1 : Option Addr) (c0_1 : Nat) (r : S58) (w : World) (hr0_0 : kI.C w A0_0 x0.f0.length x0.f0) (hc0_0 : x0.f0.length ≤ c0_0) (hr0_1 : kS62.C w A0_1 x0.f1.length x0.f1) (hc0_1 : x0.f1.length ≤ c0_1) (H : impl_cloneStore.g k x0 = some r) :
   Calls prog 105 #[.agg #[.slice A0_0 x0.f0.length c0_0, .slice A0_1 x0.f1.length c0_1]] w fun e w' => ∃ (v0_0_ : Value) (bl0_0_ : List Nat) (v0_1_ : Value) (bl0_1_ : List Nat), e = .returned (.agg #[v0_0_, v0_1_]) ∧ Owns w' w.heap.size [valM (Dk.slice 3 (Dk.int .i64)) r.f0 [v0_0_] bl0_0_, valM (Dk.slice 71 (Dk.slice 62 dq62)) r.f1 [v0_1_] bl0_1_] ∧ Below w.heap.size w w' := by
 unfold impl_cloneStore.g at H
 have HS : St (fun _ => True) w w [] [(cF kI A0_0 x0.f0), (cF kS62 A0_1 x0.f1)] [] := St.start (foot_cons (foot_C (Kd.heap_int _) hr0_0) (foot_cons (foot_C (Kd.heap_slice _ h62) hr0_1) foot_nil))
 refine cw_ (n := 26) func105 fun R_ hR_ => ?_
 refine sr_ fun _ hK1 => ?_
 refine bo_ HS (fun b2 w3 hb2 HS => ?_)
 refine WL.alloc HS (v := .agg #[sn, sn]) (cs := #[sn, sn]) rfl rfl (by decide) rfl (by kernel_rfl) rfl (fun b4 w5 hb4 HS => ?_)
 refine dn_ hK1 (sr_ fun _ hK6 => ?_)
 refine v_ (fa_ underlying58) ?_
 refine v_ (lb_ (HS.mu 1 rfl) underlying22 rfl) ?_
 obtain ⟨t7, ha8, H⟩ := bind_some H
 refine c_ func78 (slices_Clone_int_int.runs k A0_0 c0_0 x0.f0 t7 _ (HS.getO 0 rfl) hc0_0 ha8) ?_
 clear ha8
 rintro _ w9 ⟨v10, bl11, rfl, hO_, hb⟩
 replace HS := HS.got hb hO_
 dsimp only [List.cons_append, List.nil_append] at HS
 clear hO_
 obtain ⟨I12, bl13, HS⟩ := HS.unseal (sz := 1) rfl
 replace HS := HS.freezeN 1 (p := (rF kI t7 I12)) rfl (fun _ hP_ _ => RepsB.reps hP_)
 dsimp only [List.eraseIdx] at HS
 refine ⟨_, rfl, ?_⟩
 clear hb
 obtain ⟨A14, c15, rfl⟩ := row_slice (HS.mu 0 rfl)
 refine v_ (Run.build (cells := #[(.slice A14 t7.length c15), sn]) rfl [(0, (.slice A14 t7.length c15))] ⟨⟨rfl, rfl⟩, trivial⟩ (by kernel_rfl)) ?_
 refine WL.alloc HS (v := .agg #[sn, sn]) (cs := #[sn, sn]) rfl rfl (by decide) rfl (by kernel_rfl) rfl (fun b16 w17 hb16 HS => ?_)
 refine WL.storeW HS 0 rfl rfl rfl rfl rfl rfl (oneL rfl) (by kernel_rfl) rfl (fun w18 HS => ?_)
 dsimp only [List.set] at HS
 refine dn_ hK6 (WC.seq fun K19 hK19 => ?_)
 refine sr_ fun _ hK20 => ?_
 refine v_ (fa_ underlying58) ?_
 refine v_ (lb_ (HS.mu 3 rfl) underlying56 rfl) ?_
 refine ln_ underlying56 ?_
 refine mv_ ?_
 refine dn_ hK20 (WC.block ?_)
 replace HS := HS.rowNil 71 1
 replace HS := HS.els0 (Dk.slice 62 dq62)
 obtain ⟨G21, hG22, oc23, H, Ho24⟩ := open_G H
 let J30 := fun (i25 : Int) (xs26 : List (List S62)) v27 I28 bl29 (E_ : Env) (W_ : World) => E_ = [(2, .pointer (some ⟨b4, 0, none⟩)), (3, .pointer (some ⟨b16, 0, none⟩)), (11, .slice A0_1 x0.f1.length c0_1), (12, vi (x0.f1.length : Int)), (13, vi i25)] ∧ St (fun _ => True) w W_ [elsM (Dk.slice 62 dq62) xs26 I28 bl29, rowM w.heap.size 71 1 v27 xs26.length I28, boxM b16 #[(.slice A14 t7.length c15), v27] 58, rowM w.heap.size 3 1 (.slice A14 t7.length c15) t7.length I12, boxM b4 #[sn, sn] 58, boxM b2 #[.slice A0_0 x0.f0.length c0_0, .slice A0_1 x0.f1.length c0_1] 58] [(cF kI A0_0 x0.f0), (cF kS62 A0_1 x0.f1)] [(rF kI t7 I12)]
 have X31 : ∀ E_ W_, (∃ i25 xs26 v27 I28 bl29, G21 (i25, xs26) = some r ∧ J30 i25 xs26 v27 I28 bl29 E_ W_) → ∀ a, Fits a 26 E_ → K19 a W_ := by
   rintro E_ w32 ⟨i25, xs26, v27, I28, bl29, H, rfl, HS⟩
   rw [hG22] at H
   (try dsimp only at H)
   refine hK19 _ _ ?_
   refine sr_ fun _ hK33 => ?_
   obtain ⟨A34, c35, rfl⟩ := row_slice (HS.mu 1 rfl)
   refine v_ (ls_ (HS.mu 2 rfl) underlying58 part_all) ?_
   refine WL.storeW HS 4 rfl rfl rfl rfl rfl rfl (oneL rfl) (by kernel_rfl) rfl (fun w36 HS => ?_)
   dsimp only [List.set] at HS
   refine dn_ hK33 (WC.ret ?_)
   replace HS := HS.elsF (xs := t7) (inner := I12) (Dk.int .i64) (fun _ _ _ h_ => ⟨h_, rfl⟩) (fun _ => (HS.getN 0 rfl))
   replace HS := HS.front 4 rfl
   dsimp only [List.eraseIdx] at HS
   replace HS := HS.seal rfl rfl
   replace HS := HS.front 1 rfl
   dsimp only [List.eraseIdx] at HS
   replace HS := HS.front 2 rfl
   dsimp only [List.eraseIdx] at HS
   replace HS := HS.seal rfl rfl
   obtain rfl := os H
   exact fin1 Try.f105 rfl ⟨_, rfl, resv_box (HS.mu 3 rfl) underlying58 rfl (by kernel_rfl)⟩ hR_ ⟨_, _, _, _, rfl, (St.owns (St.front (St.front (St.forget (St.forget (St.forget HS 4 rfl) 3 rfl) 2 rfl) 0 rfl) 1 rfl)), HS.b⟩
 clear hK19
 refine WC.loop (fun k_ E_ W_ => ∃ i25 xs26 v27 I28 bl29, (∃ o_, impl_cloneStore.l0 x0 k_ i25 xs26 = some o_ ∧ G21 o_ = some r) ∧ J30 i25 xs26 v27 I28 bl29 E_ W_) k ⟨0, ([] : List (List S62)), (sn), ([]), ([]), ⟨_, H, Ho24⟩, rfl, HS⟩ (sb rfl) ?_
 rintro k_ E_ w38 ⟨i25, xs26, v27, I28, bl29, ⟨oc23, H, Ho24⟩, rfl, HS⟩
 rcases k_ with _ | k39
 · exact no_ H
 replace H : impl_cloneStore.b0 x0 (impl_cloneStore.l0 x0 k39) k39 i25 xs26 = some oc23 := H
 unfold impl_cloneStore.b0 at H
 refine sr_ fun _ hK40 => ?_
 refine b_ bin_lss ?_
 refine dn_ hK40 (WC.seq fun _ hK41 => ?_)
 rcases eti_ H with ⟨c42, H⟩ | ⟨c42, H⟩
 · refine wn_ (dF c42) (WC.exit ?_)
   obtain rfl := os H
   exact wv_ iq X31 ⟨i25, xs26, v27, I28, bl29, Ho24, rfl, HS⟩
 refine wy_ (dT c42) (WC.skip (via_ hK41 (WC.seq fun _ hK43 => ?_)))
 refine WC.block (sr_ fun _ hK44 => ?_)
 obtain ⟨⟨q45, q46⟩, H⟩ := if_some H
 obtain ⟨ad47, rfl⟩ := C_open (HS.getO 1 rfl) (by omega)
 refine v_ (ia_ underlying56 1 q45 q46) ?_
 obtain ⟨A48, c49, le50, HS⟩ := HS.slO 1 rfl i25 q45 q46
 refine v_ (Run.load rfl rfl underlying71 rfl (HS.getO 1 rfl)) ?_
 refine ad_ hK44 ?_
 refine WC.drawW HS [boxM b16 #[(.slice A14 t7.length c15), v27] 58, boxM b4 #[sn, sn] 58, boxM b2 #[.slice A0_0 x0.f0.length c0_0, .slice (some ad47) x0.f1.length c0_1] 58] (fun _ HS => ⟨(HS.mu 2 rfl), (HS.mu 4 rfl), (HS.mu 5 rfl), trivial⟩) [7] rfl rfl (fun w51 HS => ?_)
 refine df_ 0 underlying58 ?_
 refine dm_ 2 ?_
 obtain ⟨A52, c53, rfl⟩ := row_slice (HS.mu 1 rfl)
 refine dt_ 1 ⟨HS.nowO, HS.nowN, ⟨(HS.mu 2 rfl), (HS.mu 4 rfl), (HS.mu 5 rfl), trivial⟩⟩ (fun w_ hw_ => Run.load rfl rfl underlying56 rfl (box_cell hw_.2.2.1 rfl)) ?_
 obtain ⟨t54, ha55, H⟩ := bind_some H
 refine dc_ 3 (w_none rfl) func107 (impl_cloneCells.runs k39 A48 c49 (x0.f1.getD i25.toNat []) t54 _ (HS.getO 0 rfl) le50 ha55) ?_
 clear ha55
 rintro _ w56 ⟨v57, bl58, rfl, hO_, hb⟩
 replace HS := HS.got hb hO_
 dsimp only [List.cons_append, List.nil_append] at HS
 clear hO_
 obtain ⟨I59, bl60, HS⟩ := HS.unseal (sz := 2) rfl
 refine ⟨⟨HS.nowO, HS.nowN, ⟨(HS.mu 4 rfl), (HS.mu 6 rfl), (HS.mu 7 rfl), trivial⟩⟩, _, rfl, ?_⟩
 clear hb
 obtain ⟨A61, c62, rfl⟩ := row_slice (HS.mu 0 rfl)
 have HS1 := HS.below (below_alloc (Below.refl _ _) (.cells #[(.slice A61 t54.length c62)] 71))
 refine dv_ 4 (w_none rfl) (Run.lit1 (z := (sn)) (vs := [(.slice A61 t54.length c62)]) rfl rfl rfl underlying56 (by kernel_rfl) (ble_ rfl) (ble_ rfl)) ⟨HS1.nowO, HS1.nowN, ⟨(HS1.mu 4 rfl), (HS1.mu 6 rfl), (HS1.mu 7 rfl), trivial⟩⟩ ?_
 obtain ⟨q63, H⟩ := if_some H
 refine WD.append 5 (w_none rfl) HS1 3 rfl rfl (sn) 24 underlying56 (by kernel_rfl) rfl (by decide) (by decide) rfl rfl [(.slice A61 t54.length c62)] rfl (lit_news _ _ _) (oneL rfl) (by omega) ((xs26 ++ [t54]).length) (by simp) (fun v64 w65 I66 hI67 HS => ?_)
 dsimp only [List.set] at HS
 clear HS1
 replace HS := HS.front 1 rfl
 dsimp only [List.eraseIdx] at HS
 replace HS := HS.front 1 rfl
 dsimp only [List.eraseIdx] at HS
 replace HS := HS.seal rfl rfl
 replace HS := HS.front 1 rfl
 dsimp only [List.eraseIdx] at HS
 replace HS := HS.front 1 rfl
 dsimp only [List.eraseIdx] at HS
 replace HS := HS.elsSnoc hI67
 refine ⟨⟨HS.nowO, HS.nowN, ⟨(HS.mu 2 rfl), (HS.mu 4 rfl), (HS.mu 5 rfl), trivial⟩⟩, ?_⟩
 refine df_ 6 underlying58 ?_
 obtain ⟨A69, c70, rfl⟩ := row_slice (HS.mu 1 rfl)
 refine WD.storeL 7 HS 2 rfl rfl rfl rfl rfl (by kernel_rfl) (ble_ rfl) (cs' := #[(.slice A14 t7.length c15), (.slice A69 ((xs26 ++ [t54]).length) c70)]) (by kernel_rfl) (fun w68 HS => ?_)
 dsimp only [List.set] at HS
 refine dd_ (via_ hK43 (rg_ (b_ bin_add64 ?_)))
 refine mv_ ?_
 refine WL.done ?_
 exact wr_ k39 iq ⟨(wrap64 (i25 + 1)), (xs26 ++ [t54]), (.slice A69 ((xs26 ++ [t54]).length) c70), I66, (bl29 ++ (((.slice A61 t54.length c62) : Value).ownBlock.toList ++ bl60)), ⟨_, H, Ho24⟩, rfl, (St.pk HS [2, 3] [0] rfl rfl)⟩
def impl_DropTable.b0 (x1 : S67) (rec_ : Int → (List Int) → (List (List S62)) → Option (Int × (List Int) × (List (List S62)))) (k58 : Nat) (i39 : Int) (xs40 : List Int) (xs43 : List (List S62)) : Option (Int × (List Int) × (List (List S62))) := (if i39 < (x1.f0.length : Int) then (if 0 ≤ i39 ∧ i39 < (x1.f0.length : Int) then (if 0 ≤ (x1.f0.getD i39.toNat 0) ∧ (x1.f0.getD i39.toNat 0) < ((xs40.length : Nat) : Int) then (if 0 ≤ (x1.f0.getD i39.toNat 0) ∧ (x1.f0.getD i39.toNat 0) < (((xs40.set (x1.f0.getD i39.toNat 0).toNat (wrap64 ((xs40.getD (x1.f0.getD i39.toNat 0).toNat 0) - 1))).length : Nat) : Int) then (if ((xs40.set (x1.f0.getD i39.toNat 0).toNat (wrap64 ((xs40.getD (x1.f0.getD i39.toNat 0).toNat 0) - 1))).getD (x1.f0.getD i39.toNat 0).toNat 0) = 0 then (if 0 ≤ (x1.f0.getD i39.toNat 0) ∧ (x1.f0.getD i39.toNat 0) < ((xs43.length : Nat) : Int) then (rec_ (wrap64 (i39 + 1)) (xs40.set (x1.f0.getD i39.toNat 0).toNat (wrap64 ((xs40.getD (x1.f0.getD i39.toNat 0).toNat 0) - 1))) (xs43.set (x1.f0.getD i39.toNat 0).toNat ([]))) else none) else (rec_ (wrap64 (i39 + 1)) (xs40.set (x1.f0.getD i39.toNat 0).toNat (wrap64 ((xs40.getD (x1.f0.getD i39.toNat 0).toNat 0) - 1))) xs43)) else none) else none) else none) else (some (i39, xs40, xs43)))
def impl_DropTable.l0 (x1 : S67) : Nat → Int → (List Int) → (List (List S62)) → Option (Int × (List Int) × (List (List S62)))
 | 0, _, _, _ => none
 | k + 1, i39, xs40, xs43 => impl_DropTable.b0 x1 (impl_DropTable.l0 x1 k) k i39 xs40 xs43
def impl_DropTable.g (k : Nat) (x0 : S58) (x1 : S67) : Option (S58 × Bool) := ((impl_TableOk.g k (⟨x0.f0, x0.f1⟩ : S58) (⟨x1.f0, x1.f1⟩ : S67)).bind fun t10 => (if t10 = true then ((impl_cloneStore.g k (⟨x0.f0, x0.f1⟩ : S58)).bind fun t15 => ((impl_DropTable.l0 x1 k 0 t15.f0 t15.f1).bind (fun oc56 => (some ((⟨oc56.2.1, oc56.2.2⟩ : S58), true))))) else (some ((⟨[], []⟩ : S58), false))))
theorem impl_DropTable.runs (k : Nat) (x0 : S58) (A0_0 : Option Addr) (c0_0 : Nat) (A0_1 : Option Addr) (c0_1 : Nat) (x1 : S67) (A1_0 : Option Addr) (c1_0 : Nat) (r1 : S58) (r2 : Bool) (w : World) (hr0_0 : kI.C w A0_0 x0.f0.length x0.f0) (hc0_0 : x0.f0.length ≤ c0_0) (hr0_1 : kS62.C w A0_1 x0.f1.length x0.f1) (hc0_1 : x0.f1.length ≤ c0_1) (hr1_0 : kI.C w A1_0 x1.f0.length x1.f0) (hc1_0 : x1.f0.length ≤ c1_0) (H : impl_DropTable.g k x0 x1 = some (r1, r2)) :
   Calls prog 55 #[.agg #[.slice A0_0 x0.f0.length c0_0, .slice A0_1 x0.f1.length c0_1], .agg #[.slice A1_0 x1.f0.length c1_0, vi x1.f1]] w fun e w' => ∃ (v0_0_ : Value) (bl0_0_ : List Nat) (v0_1_ : Value) (bl0_1_ : List Nat), e = .returned (.tuple #[.agg #[v0_0_, v0_1_], .bool r2]) ∧ Owns w' w.heap.size [valM (Dk.slice 3 (Dk.int .i64)) r1.f0 [v0_0_] bl0_0_, valM (Dk.slice 71 (Dk.slice 62 dq62)) r1.f1 [v0_1_] bl0_1_] ∧ Below w.heap.size w w' := by
 unfold impl_DropTable.g at H
 have HS : St (fun _ => True) w w [] [(cF kI A0_0 x0.f0), (cF kS62 A0_1 x0.f1), (cF kI A1_0 x1.f0)] [] := St.start (foot_cons (foot_C (Kd.heap_int _) hr0_0) (foot_cons (foot_C (Kd.heap_slice _ h62) hr0_1) (foot_cons (foot_C (Kd.heap_int _) hr1_0) foot_nil)))
 refine cw_ (n := 27) func55 fun R_ hR_ => ?_
 refine sr_ fun _ hK1 => ?_
 refine bo_ HS (fun b2 w3 hb2 HS => ?_)
 refine bo_ HS (fun b4 w5 hb4 HS => ?_)
 refine WL.alloc HS (v := .agg #[sn, sn]) (cs := #[sn, sn]) rfl rfl (by decide) rfl (by kernel_rfl) rfl (fun b6 w7 hb6 HS => ?_)
 refine ad_ hK1 ?_
 refine WC.seq fun _ hK8 => ?_
 refine sr_ fun _ hK9 => ?_
 refine v_ (ls_ (HS.mu 2 rfl) underlying58 part_all) ?_
 refine v_ (ls_ (HS.mu 1 rfl) underlying67 part_all) ?_
 obtain ⟨t10, ha11, H⟩ := bind_some H
 refine cs_ HS func57 (impl_TableOk.runs k (⟨x0.f0, x0.f1⟩ : S58) A0_0 c0_0 A0_1 c0_1 (⟨x1.f0, x1.f1⟩ : S67) A1_0 c1_0 t10 _ (HS.getO 0 rfl) hc0_0 (HS.getO 1 rfl) hc0_1 (HS.getO 2 rfl) hc1_0 ha11) (fun w12 HS => ?_)
 clear ha11
 refine nt_ ?_
 refine dn_ hK9 ?_
 rcases eti_ H with ⟨c13, H⟩ | ⟨c13, H⟩
 · refine wy_ (nB (bF c13)) (sr_ fun _ hK98 => ?_)
   refine v_ (Run.build (cells := #[sn, sn]) rfl [] trivial (by kernel_rfl)) ?_
   refine WL.storeW HS 0 rfl rfl rfl rfl rfl rfl (oneL rfl) (by kernel_rfl) rfl (fun w99 HS => ?_)
   dsimp only [List.set] at HS
   refine ad_ hK98 ?_
   refine WC.ret ?_
   replace HS := HS.nilV (α := Int) 3 (Dk.int .i64)
   replace HS := HS.nilV (α := List S62) 71 (Dk.slice 62 dq62)
   obtain ⟨rfl, rfl⟩ := Prod.mk.inj (os H)
   exact fin2 Try.f55 rfl ⟨_, rfl, resv_box (HS.mu 2 rfl) underlying58 rfl (by kernel_rfl)⟩ rfl hR_ ⟨_, _, _, _, rfl, (St.owns (St.front (St.front (St.forget (St.forget (St.forget HS 4 rfl) 3 rfl) 2 rfl) 0 rfl) 1 rfl)), HS.b⟩
 refine wn_ (nB c13) (WC.skip (via_ hK8 (sr_ fun _ hK14 => ?_)))
 refine v_ (ls_ (HS.mu 2 rfl) underlying58 part_all) ?_
 obtain ⟨t15, ha16, H⟩ := bind_some H
 refine c_ func105 (impl_cloneStore.runs k (⟨x0.f0, x0.f1⟩ : S58) A0_0 c0_0 A0_1 c0_1 t15 _ (HS.getO 0 rfl) hc0_0 (HS.getO 1 rfl) hc0_1 ha16) ?_
 clear ha16
 rintro _ w17 ⟨v18, bl19, v20, bl21, rfl, hO_, hb⟩
 replace HS := HS.got hb hO_
 dsimp only [List.cons_append, List.nil_append] at HS
 clear hO_
 obtain ⟨I22, bl23, HS⟩ := HS.unseal (sz := 1) rfl
 replace HS := HS.freezeN 1 (p := (rF kI t15.f0 I22)) rfl (fun _ hP_ _ => RepsB.reps hP_)
 dsimp only [List.eraseIdx] at HS
 replace HS := HS.front 1 rfl
 dsimp only [List.eraseIdx] at HS
 obtain ⟨I24, bl25, HS⟩ := HS.unseal (sz := 1) rfl
 refine ⟨_, rfl, ?_⟩
 clear hb
 refine WL.alloc HS (v := .agg #[sn, sn]) (cs := #[sn, sn]) rfl rfl (by decide) rfl (by kernel_rfl) rfl (fun b26 w27 hb26 HS => ?_)
 obtain ⟨A29, c30, rfl⟩ := row_slice (HS.mu 3 rfl)
 obtain ⟨A31, c32, rfl⟩ := row_slice (HS.mu 1 rfl)
 refine WL.storeW HS 0 rfl rfl rfl rfl rfl rfl (oneL rfl) (by kernel_rfl) rfl (fun w28 HS => ?_)
 dsimp only [List.set] at HS
 refine dn_ hK14 (WC.seq fun K33 hK33 => ?_)
 refine sr_ fun _ hK34 => ?_
 refine v_ (fa_ underlying67) ?_
 refine v_ (lb_ (HS.mu 5 rfl) underlying22 rfl) ?_
 refine ln_ underlying22 ?_
 refine mv_ ?_
 refine dn_ hK34 (WC.block ?_)
 obtain ⟨G35, hG36, oc37, H, Ho38⟩ := open_G H
 let J47 := fun (i39 : Int) (xs40 : List Int) v41 I42 (xs43 : List (List S62)) v44 I45 bl46 (E_ : Env) (W_ : World) => E_ = [(4, .pointer (some ⟨b6, 0, none⟩)), (6, .pointer (some ⟨b26, 0, none⟩)), (17, .slice A1_0 x1.f0.length c1_0), (18, vi (x1.f0.length : Int)), (19, vi i39)] ∧ St (fun _ => True) w W_ [boxM b26 #[v41, v44] 58, rowM w.heap.size 71 1 v44 xs43.length I45, elsM (Dk.slice 62 dq62) xs43 I45 bl46, rowM w.heap.size 3 1 v41 xs40.length I42, boxM b6 #[sn, sn] 58, boxM b4 #[.slice A1_0 x1.f0.length c1_0, vi x1.f1] 67, boxM b2 #[.slice A0_0 x0.f0.length c0_0, .slice A0_1 x0.f1.length c0_1] 58] [(cF kI A0_0 x0.f0), (cF kS62 A0_1 x0.f1), (cF kI A1_0 x1.f0)] [(rF kI xs40 I42)]
 have X48 : ∀ E_ W_, (∃ i39 xs40 v41 I42 xs43 v44 I45 bl46, G35 (i39, xs40, xs43) = some (r1, r2) ∧ J47 i39 xs40 v41 I42 xs43 v44 I45 bl46 E_ W_) → ∀ a, Fits a 27 E_ → K33 a W_ := by
   rintro E_ w49 ⟨i39, xs40, v41, I42, xs43, v44, I45, bl46, H, rfl, HS⟩
   rw [hG36] at H
   (try dsimp only at H)
   refine hK33 _ _ ?_
   refine sr_ fun _ hK50 => ?_
   obtain ⟨A51, c52, rfl⟩ := row_slice (HS.mu 3 rfl)
   obtain ⟨A53, c54, rfl⟩ := row_slice (HS.mu 1 rfl)
   refine v_ (ls_ (HS.mu 0 rfl) underlying58 part_all) ?_
   refine WL.storeW HS 4 rfl rfl rfl rfl rfl rfl (oneL rfl) (by kernel_rfl) rfl (fun w55 HS => ?_)
   dsimp only [List.set] at HS
   refine ad_ hK50 ?_
   refine WC.ret ?_
   replace HS := HS.elsF (xs := xs40) (inner := I42) (Dk.int .i64) (fun _ _ _ h_ => ⟨h_, rfl⟩) (fun _ => (HS.getN 0 rfl))
   replace HS := HS.front 4 rfl
   dsimp only [List.eraseIdx] at HS
   replace HS := HS.seal rfl rfl
   replace HS := HS.front 3 rfl
   dsimp only [List.eraseIdx] at HS
   replace HS := HS.front 3 rfl
   dsimp only [List.eraseIdx] at HS
   replace HS := HS.seal rfl rfl
   obtain ⟨rfl, rfl⟩ := Prod.mk.inj (os H)
   exact fin2 Try.f55 rfl ⟨_, rfl, resv_box (HS.mu 3 rfl) underlying58 rfl (by kernel_rfl)⟩ rfl hR_ ⟨_, _, _, _, rfl, (St.owns (St.front (St.front (St.forget (St.forget (St.forget (St.forget HS 5 rfl) 4 rfl) 3 rfl) 2 rfl) 0 rfl) 1 rfl)), HS.b⟩
 clear hK33
 refine WC.loop (fun k_ E_ W_ => ∃ i39 xs40 v41 I42 xs43 v44 I45 bl46, (∃ o_, impl_DropTable.l0 x1 k_ i39 xs40 xs43 = some o_ ∧ G35 o_ = some (r1, r2)) ∧ J47 i39 xs40 v41 I42 xs43 v44 I45 bl46 E_ W_) k ⟨0, t15.f0, (.slice A29 t15.f0.length c30), I22, t15.f1, (.slice A31 t15.f1.length c32), I24, bl25, ⟨_, H, Ho38⟩, rfl, HS⟩ (sb rfl) ?_
 rintro k_ E_ w57 ⟨i39, xs40, v41, I42, xs43, v44, I45, bl46, ⟨oc37, H, Ho38⟩, rfl, HS⟩
 rcases k_ with _ | k58
 · exact no_ H
 replace H : impl_DropTable.b0 x1 (impl_DropTable.l0 x1 k58) k58 i39 xs40 xs43 = some oc37 := H
 unfold impl_DropTable.b0 at H
 refine sr_ fun _ hK59 => ?_
 refine b_ bin_lss ?_
 refine dn_ hK59 (WC.seq fun _ hK60 => ?_)
 rcases eti_ H with ⟨c61, H⟩ | ⟨c61, H⟩
 · refine wn_ (dF c61) (WC.exit ?_)
   obtain rfl := os H
   exact wv_ iq X48 ⟨i39, xs40, v41, I42, xs43, v44, I45, bl46, Ho38, rfl, HS⟩
 refine wy_ (dT c61) (WC.skip (via_ hK60 (WC.seq fun _ hK62 => ?_)))
 refine WC.block (sr_ fun _ hK63 => ?_)
 obtain ⟨⟨q64, q65⟩, H⟩ := if_some H
 obtain ⟨ad66, rfl⟩ := C_open (HS.getO 2 rfl) (by omega)
 refine v_ (ia_ underlying22 1 q64 q65) ?_
 refine v_ (Run.load rfl rfl underlying3 rfl (int_cell (HS.getO 2 rfl) i39 q64 q65)) ?_
 refine ad_ hK63 ?_
 refine rg_ (mv_ ?_)
 refine ci_ (args := [.pointer (some ⟨b26, 0, none⟩), vi (x1.f0.getD i39.toNat 0)]) func110 ?_
 refine cw_ (n := 27) func110 fun _ hR67 => ?_
 refine WC.endK (fun _ hK68 => ?_)
 refine sr_ fun _ hK69 => ?_
 refine mv_ ?_
 refine v_ (Run.nilCheck rfl rfl) ?_
 refine v_ (fa_ underlying58) ?_
 obtain ⟨A70, c71, rfl⟩ := row_slice (HS.mu 3 rfl)
 refine v_ (lb_ (HS.mu 0 rfl) underlying22 rfl) ?_
 refine mv_ ?_
 obtain ⟨⟨q72, q73⟩, H⟩ := if_some H
 obtain ⟨ad74, rfl⟩ := row_open (HS.mu 3 rfl) (by omega)
 refine v_ (ia_ underlying22 1 q72 q73) ?_
 refine v_ (Run.load rfl rfl underlying3 rfl (row_int (HS.mu 3 rfl) (HS.getN 0 rfl) q72 q73)) ?_
 refine b_ bin_sub64 ?_
 refine v_ (ia_ underlying22 1 q72 q73) ?_
 have hk_ := mul_room q72 q73 1
 refine WL.putEl HS 3 rfl rfl rfl rfl rfl rfl [vi (wrap64 ((xs40.getD (x1.f0.getD i39.toNat 0).toNat 0) - 1))] rfl (oneL rfl) (by kernel_rfl) (by first | omega | (rw [List.length_nil]; omega) | (simp; omega)) (fun w75 I76 hI77 HS => ?_)
 dsimp only [List.set] at HS
 clear hk_
 replace HS := HS.deriveN (p := (rF kI (xs40.set (x1.f0.getD i39.toNat 0).toNat (wrap64 ((xs40.getD (x1.f0.getD i39.toNat 0).toNat 0) - 1))) I76)) (fun W_ hN_ => reps_set hI77 hN_.1 (K_int _) (toNat_lt q72 q73))
 replace HS := HS.rowN 3 rfl (show xs40.length = (xs40.set (x1.f0.getD i39.toNat 0).toNat (wrap64 ((xs40.getD (x1.f0.getD i39.toNat 0).toNat 0) - 1))).length from (List.length_set ..).symm)
 dsimp only [List.set] at HS
 generalize hv79 : (Value.slice (some ad74) xs40.length c71) = v78 at HS ⊢
 refine dn_ hK69 (sr_ fun _ hK80 => ?_)
 refine mv_ ?_
 refine v_ (Run.nilCheck rfl rfl) ?_
 refine v_ (fa_ underlying58) ?_
 obtain ⟨A81, c82, rfl⟩ := row_slice (HS.mu 3 rfl)
 refine v_ (lb_ (HS.mu 0 rfl) underlying22 rfl) ?_
 refine mv_ ?_
 obtain ⟨⟨q83, q84⟩, H⟩ := if_some H
 obtain ⟨ad85, rfl⟩ := row_open (HS.mu 3 rfl) (by omega)
 refine v_ (ia_ underlying22 1 q83 q84) ?_
 refine v_ (Run.load rfl rfl underlying3 rfl (row_int (HS.mu 3 rfl) (HS.getN 0 rfl) q83 q84)) ?_
 refine b_ bin_eql ?_
 refine dn_ hK80 ?_
 rcases eti_ H with ⟨c86, H⟩ | ⟨c86, H⟩
 · refine wn_ (eF c86) (WC.skip (viaQ_ hK68 ?_))
   refine fin0 Try.f110 hR67 ⟨_, rfl, ?_⟩ (Or.inr rfl)
   refine dn_ hK62 (rg_ (b_ bin_add64 ?_))
   refine mv_ ?_
   refine WL.done ?_
   exact wr_ k58 iq ⟨(wrap64 (i39 + 1)), (xs40.set (x1.f0.getD i39.toNat 0).toNat (wrap64 ((xs40.getD (x1.f0.getD i39.toNat 0).toNat 0) - 1))), (.slice (some ad85) ((xs40.set (x1.f0.getD i39.toNat 0).toNat (wrap64 ((xs40.getD (x1.f0.getD i39.toNat 0).toNat 0) - 1))).length) c82), I76, xs43, v44, I45, bl46, ⟨_, H, Ho38⟩, rfl, (St.pk HS [0, 1, 2] [0] rfl rfl)⟩
 refine wy_ (eT c86) (rg_ (mv_ ?_))
 refine v_ (Run.nilCheck rfl rfl) ?_
 refine v_ (fa_ underlying58) ?_
 obtain ⟨A87, c88, rfl⟩ := row_slice (HS.mu 1 rfl)
 refine v_ (lb_ (HS.mu 0 rfl) underlying56 rfl) ?_
 refine mv_ ?_
 obtain ⟨⟨q89, q90⟩, H⟩ := if_some H
 obtain ⟨ad91, rfl⟩ := row_open (HS.mu 1 rfl) (by omega)
 refine v_ (ia_ underlying56 1 q89 q90) ?_
 have hk_ := mul_room q89 q90 1
 refine WL.putEl HS 1 rfl rfl rfl rfl rfl rfl [sn] rfl (oneL rfl) (by kernel_rfl) (by first | omega | (rw [List.length_nil]; omega) | (simp; omega)) (fun w92 I93 hI94 HS => ?_)
 dsimp only [List.set] at HS
 clear hk_
 replace HS := HS.rowN 1 rfl (show xs43.length = (xs43.set (x1.f0.getD i39.toNat 0).toNat ([])).length from (List.length_set ..).symm)
 dsimp only [List.set] at HS
 replace HS := HS.nilV (α := S62) 62 (dq62)
 replace HS := HS.front 3 rfl
 dsimp only [List.eraseIdx] at HS
 replace HS := HS.front 1 rfl
 dsimp only [List.eraseIdx] at HS
 obtain ⟨bl95, HS⟩ := HS.elsSet (x1.f0.getD i39.toNat 0).toNat rfl hI94 (toNat_lt q89 q90)
 generalize hv97 : (Value.slice (some ad91) xs43.length c88) = v96 at HS ⊢
 refine WL.done ?_
 refine viaQ_ hK68 ?_
 refine fin0 Try.f110 hR67 ⟨_, rfl, ?_⟩ (Or.inr rfl)
 refine dn_ hK62 (rg_ (b_ bin_add64 ?_))
 refine mv_ ?_
 refine WL.done ?_
 exact wr_ k58 iq ⟨(wrap64 (i39 + 1)), (xs40.set (x1.f0.getD i39.toNat 0).toNat (wrap64 ((xs40.getD (x1.f0.getD i39.toNat 0).toNat 0) - 1))), (.slice (some ad85) ((xs40.set (x1.f0.getD i39.toNat 0).toNat (wrap64 ((xs40.getD (x1.f0.getD i39.toNat 0).toNat 0) - 1))).length) c82), I76, (xs43.set (x1.f0.getD i39.toNat 0).toNat ([])), v96, I93, bl95, ⟨_, H, Ho38⟩, rfl, (St.pk (St.front (St.front (St.front (St.front (St.front (St.front (St.front HS 6 rfl) 6 rfl) 6 rfl) 6 rfl) 4 rfl) 6 rfl) 6 rfl) [0, 1, 2] [0] rfl rfl)⟩
def laws_FnExactDropTable.g (k : Nat) (x0 : S84) (x1 : S85) : Option Bool := ((laws_szStore.g k (⟨x0.f0, x0.f1⟩ : S84) 1048576).bind fun t8 => (if t8 < 0 then (some true) else ((laws_szTable.g k (⟨x1.f0, x1.f1⟩ : S85) t8).bind fun t16 => (if t16 < 0 then (some true) else ((laws_toStore.g k (⟨x0.f0, x0.f1⟩ : S84)).bind fun t26 => ((laws_toTable.g k (⟨x1.f0, x1.f1⟩ : S85)).bind fun t37 => ((spec_DropTable.g k t26 t37).bind fun t50 => ((laws_toStore.g k (⟨x0.f0, x0.f1⟩ : S84)).bind fun t152 => ((laws_toTable.g k (⟨x1.f0, x1.f1⟩ : S85)).bind fun t171 => ((impl_DropTable.g k (⟨t152.f0, t152.f1⟩ : S58) (⟨t171.f0, t171.f1⟩ : S67)).bind fun t184 => ((laws_eqStore.g k (⟨t184.1.f0, t184.1.f1⟩ : S58) (⟨t50.1.f0, t50.1.f1⟩ : S58)).bind fun t204 => (if t204 = true then (if t184.2 = t50.2 then ((laws_toStore.g k (⟨x0.f0, x0.f1⟩ : S84)).bind fun t212 => ((laws_eqStore.g k (⟨t152.f0, t152.f1⟩ : S58) t212).bind fun t227 => (if t227 = true then ((laws_toTable.g k (⟨x1.f0, x1.f1⟩ : S85)).bind fun t234 => ((laws_eqTable.g k (⟨t171.f0, t171.f1⟩ : S67) t234).bind fun t243 => (if t243 = true then (if (0 : Int) ≤ 1 ∧ 1 + ((n22 t152.f0) : Int) ≤ 4611686018427387904 then (if 0 ≤ (1 + ((n22 t152.f0) : Int)) ∧ (1 + ((n22 t152.f0) : Int)) + ((n56 t152.f1) : Int) ≤ 4611686018427387904 then (if 0 ≤ ((1 + ((n22 t152.f0) : Int)) + ((n56 t152.f1) : Int)) ∧ ((1 + ((n22 t152.f0) : Int)) + ((n56 t152.f1) : Int)) + ((n22 t171.f0) : Int) ≤ 4611686018427387904 then ((laws_eqStore.g k (⟨t184.1.f0, t184.1.f1⟩ : S58) (⟨t50.1.f0, t50.1.f1⟩ : S58)).bind fun t283 => (if t283 = true then (if (0 : Int) ≤ 1 ∧ 1 + ((n22 t184.1.f0) : Int) ≤ 4611686018427387904 then (if 0 ≤ (1 + ((n22 t184.1.f0) : Int)) ∧ (1 + ((n22 t184.1.f0) : Int)) + ((n56 t184.1.f1) : Int) ≤ 4611686018427387904 then ((laws_toStore.g k (⟨x0.f0, x0.f1⟩ : S84)).bind fun t332 => ((laws_toTable.g k (⟨x1.f0, x1.f1⟩ : S85)).bind fun t343 => ((impl_DropTable.g k t332 t343).bind fun t356 => ((laws_eqStore.g k (⟨t356.1.f0, t356.1.f1⟩ : S58) (⟨t50.1.f0, t50.1.f1⟩ : S58)).bind fun t459 => (if t459 = true then (if t356.2 = t50.2 then (some true) else (some false)) else (some false)))))) else none) else none) else (some false))) else none) else none) else none) else (some false)))) else (some false)))) else (some false)) else (some false)))))))))))))
theorem laws_FnExactDropTable.runs (k : Nat) (x0 : S84) (A0_0 : Option Addr) (c0_0 : Nat) (A0_1 : Option Addr) (c0_1 : Nat) (x1 : S85) (A1_0 : Option Addr) (c1_0 : Nat) (r : Bool) (w : World) (hr0_0 : kI.C w A0_0 x0.f0.length x0.f0) (hc0_0 : x0.f0.length ≤ c0_0) (hr0_1 : kS98.C w A0_1 x0.f1.length x0.f1) (hc0_1 : x0.f1.length ≤ c0_1) (hr1_0 : kI.C w A1_0 x1.f0.length x1.f0) (hc1_0 : x1.f0.length ≤ c1_0) (H : laws_FnExactDropTable.g k x0 x1 = some r) :
   Calls prog 12 #[.agg #[.slice A0_0 x0.f0.length c0_0, .slice A0_1 x0.f1.length c0_1], .agg #[.slice A1_0 x1.f0.length c1_0, vi x1.f1]] w fun e w' => e = .returned (.bool r) ∧ Below w.heap.size w w' := by
 unfold laws_FnExactDropTable.g at H
 have HS : St (fun _ => True) w w [] [(cF kI A0_0 x0.f0), (cF kS98 A0_1 x0.f1), (cF kI A1_0 x1.f0)] [] := St.start (foot_cons (foot_C (Kd.heap_int _) hr0_0) (foot_cons (foot_C (Kd.heap_slice _ h98) hr0_1) (foot_cons (foot_C (Kd.heap_int _) hr1_0) foot_nil)))
 refine cw_ (n := 119) func12 fun R_ hR_ => ?_
 refine sr_ fun _ hK1 => ?_
 refine bo_ HS (fun b2 w3 hb2 HS => ?_)
 refine bo_ HS (fun b4 w5 hb4 HS => ?_)
 refine ad_ hK1 ?_
 clear hK1
 exact by (
 refine sr_ fun _ hK6 => ?_
 refine ad_ hK6 ?_
 clear hK6
 refine sr_ fun _ hK7 => ?_
 refine v_ (ls_ (HS.mu 1 rfl) underlying84 part_all) ?_
 refine mv_ ?_
 obtain ⟨t8, ha9, H⟩ := bind_some H
 refine cs_ HS func58 (laws_szStore.runs k (⟨x0.f0, x0.f1⟩ : S84) A0_0 c0_0 A0_1 c0_1 1048576 t8 _ (HS.getO 0 rfl) hc0_0 (HS.getO 1 rfl) hc0_1 ha9) (fun w10 HS => ?_)
 exact by (
 clear ha9
 refine ad_ hK7 ?_
 clear hK7
 refine WC.seq fun _ hK11 => ?_
 refine sr_ fun _ hK12 => ?_
 refine mv_ ?_
 refine b_ bin_lss ?_
 refine dn_ hK12 ?_
 exact by (
 clear hK12
 rcases ite_ H with ⟨c13, H⟩ | ⟨c13, H⟩
 · refine wy_ (dT c13) (sr_ fun _ hK14 => ?_)
   refine ad_ hK14 ?_
   clear hK14
   obtain rfl := os H
   exact rt1 Try.f12 rfl rfl hR_ ⟨rfl, HS.b⟩
 refine wn_ (dF c13) (WC.skip (via_ hK11 (sr_ fun _ hK15 => ?_)))
 exact by (
 clear hK11
 refine v_ (ls_ (HS.mu 0 rfl) underlying85 part_all) ?_
 refine mv_ ?_
 obtain ⟨t16, ha17, H⟩ := bind_some H
 refine cs_ HS func59 (laws_szTable.runs k (⟨x1.f0, x1.f1⟩ : S85) A1_0 c1_0 t8 t16 _ (HS.getO 2 rfl) hc1_0 ha17) (fun w18 HS => ?_)
 clear ha17
 refine ad_ hK15 ?_
 clear hK15
 exact by (
 refine WC.seq fun _ hK19 => ?_
 refine sr_ fun _ hK20 => ?_
 refine mv_ ?_
 refine b_ bin_lss ?_
 refine dn_ hK20 ?_
 clear hK20
 rcases ite_ H with ⟨c21, H⟩ | ⟨c21, H⟩
 · refine wy_ (dT c21) (sr_ fun _ hK22 => ?_)
   exact by (
   refine ad_ hK22 ?_
   clear hK22
   obtain rfl := os H
   exact rt1 Try.f12 rfl rfl hR_ ⟨rfl, HS.b⟩ )
 refine wn_ (dF c21) (WC.skip (via_ hK19 (WC.seq fun _ hK23 => ?_)))
 clear hK19
 refine WC.drawW HS [boxM b4 #[.slice A1_0 x1.f0.length c1_0, vi x1.f1] 85, boxM b2 #[.slice A0_0 x0.f0.length c0_0, .slice A0_1 x0.f1.length c0_1] 84] (fun _ HS => ⟨(HS.mu 0 rfl), (HS.mu 1 rfl), trivial⟩) [] rfl rfl (fun w24 HS => ?_)
 refine dt_ 0 ⟨HS.nowO, HS.nowN, ⟨(HS.mu 0 rfl), (HS.mu 1 rfl), trivial⟩⟩ (fun w_ hw_ => Run.loadS (cs := [.slice A0_0 x0.f0.length c0_0, .slice A0_1 x0.f1.length c0_1]) rfl rfl underlying84 rfl (by kernel_rfl) (box_part hw_.2.2.2.1 part_all)) ?_
 exact by (
 refine dt_ 2 ⟨HS.nowO, HS.nowN, ⟨(HS.mu 0 rfl), (HS.mu 1 rfl), trivial⟩⟩ (fun w_ hw_ => Run.loadS (cs := [.slice A1_0 x1.f0.length c1_0, vi x1.f1]) rfl rfl underlying85 rfl (by kernel_rfl) (box_part hw_.2.2.1 part_all)) ?_
 refine joinWD (fun E_ W_ => ∃ (b61 : Nat) (A44 : Option Addr) (t26 : S58) (c45 : Nat) (A46 : Option Addr) (c47 : Nat) (A48 : Option Addr) (t37 : S67) (c49 : Nat) (v53 : Value) (v55 : Value) (t50 : S58 × Bool) (I59 : List Value) (bl60 : List Nat) (I57 : List Value) (I42 : List Value) (I35 : List Value) (bl36 : List Nat) (I33 : List Value), E_ = [(0, .agg #[.slice A0_0 x0.f0.length c0_0, .slice A0_1 x0.f1.length c0_1]), (1, .agg #[.slice A1_0 x1.f0.length c1_0, vi x1.f1]), (2, .pointer (some ⟨b2, 0, none⟩)), (3, .pointer (some ⟨b4, 0, none⟩)), (4, .bool false), (5, vi t16), (6, .pointer (some ⟨b61, 0, none⟩)), (17, .agg #[.slice A0_0 x0.f0.length c0_0, .slice A0_1 x0.f1.length c0_1]), (18, vi 1048576), (19, vi t8), (20, vi t8), (21, .bool (decide (t8 < 0))), (22, .agg #[.slice A1_0 x1.f0.length c1_0, vi x1.f1]), (23, vi t8), (24, vi t16), (25, vi t16), (26, .bool (decide (t16 < 0))), (28, .agg #[.slice A0_0 x0.f0.length c0_0, .slice A0_1 x0.f1.length c0_1]), (29, .agg #[(.slice A44 t26.f0.length c45), (.slice A46 t26.f1.length c47)]), (30, .agg #[.slice A1_0 x1.f0.length c1_0, vi x1.f1]), (31, .agg #[(.slice A48 t37.f0.length c49), vi t37.f1]), (33, .agg #[v53, v55]), (34, .bool t50.2)] ∧ ((laws_toStore.g k (⟨x0.f0, x0.f1⟩ : S84)).bind fun t152 => ((laws_toTable.g k (⟨x1.f0, x1.f1⟩ : S85)).bind fun t171 => ((impl_DropTable.g k (⟨t152.f0, t152.f1⟩ : S58) (⟨t171.f0, t171.f1⟩ : S67)).bind fun t184 => ((laws_eqStore.g k (⟨t184.1.f0, t184.1.f1⟩ : S58) (⟨t50.1.f0, t50.1.f1⟩ : S58)).bind fun t204 => (if t204 = true then (if t184.2 = t50.2 then ((laws_toStore.g k (⟨x0.f0, x0.f1⟩ : S84)).bind fun t212 => ((laws_eqStore.g k (⟨t152.f0, t152.f1⟩ : S58) t212).bind fun t227 => (if t227 = true then ((laws_toTable.g k (⟨x1.f0, x1.f1⟩ : S85)).bind fun t234 => ((laws_eqTable.g k (⟨t171.f0, t171.f1⟩ : S67) t234).bind fun t243 => (if t243 = true then (if (0 : Int) ≤ 1 ∧ 1 + ((n22 t152.f0) : Int) ≤ 4611686018427387904 then (if 0 ≤ (1 + ((n22 t152.f0) : Int)) ∧ (1 + ((n22 t152.f0) : Int)) + ((n56 t152.f1) : Int) ≤ 4611686018427387904 then (if 0 ≤ ((1 + ((n22 t152.f0) : Int)) + ((n56 t152.f1) : Int)) ∧ ((1 + ((n22 t152.f0) : Int)) + ((n56 t152.f1) : Int)) + ((n22 t171.f0) : Int) ≤ 4611686018427387904 then ((laws_eqStore.g k (⟨t184.1.f0, t184.1.f1⟩ : S58) (⟨t50.1.f0, t50.1.f1⟩ : S58)).bind fun t283 => (if t283 = true then (if (0 : Int) ≤ 1 ∧ 1 + ((n22 t184.1.f0) : Int) ≤ 4611686018427387904 then (if 0 ≤ (1 + ((n22 t184.1.f0) : Int)) ∧ (1 + ((n22 t184.1.f0) : Int)) + ((n56 t184.1.f1) : Int) ≤ 4611686018427387904 then ((laws_toStore.g k (⟨x0.f0, x0.f1⟩ : S84)).bind fun t332 => ((laws_toTable.g k (⟨x1.f0, x1.f1⟩ : S85)).bind fun t343 => ((impl_DropTable.g k t332 t343).bind fun t356 => ((laws_eqStore.g k (⟨t356.1.f0, t356.1.f1⟩ : S58) (⟨t50.1.f0, t50.1.f1⟩ : S58)).bind fun t459 => (if t459 = true then (if t356.2 = t50.2 then (some true) else (some false)) else (some false)))))) else none) else none) else (some false))) else none) else none) else none) else (some false)))) else (some false)))) else (some false)) else (some false)))))) = some r ∧ St (fun _ => True) w W_ [boxM b61 #[sn, sn] 58, rowM w.heap.size 71 1 v55 t50.1.f1.length I59, elsM (Dk.slice 62 dq62) t50.1.f1 I59 bl60, rowM w.heap.size 3 1 v53 t50.1.f0.length I57, rowM w.heap.size 3 1 (.slice A48 t37.f0.length c49) t37.f0.length I42, rowM w.heap.size 71 1 (.slice A46 t26.f1.length c47) t26.f1.length I35, elsM (Dk.slice 62 dq62) t26.f1 I35 bl36, rowM w.heap.size 3 1 (.slice A44 t26.f0.length c45) t26.f0.length I33, boxM b4 #[.slice A1_0 x1.f0.length c1_0, vi x1.f1] 85, boxM b2 #[.slice A0_0 x0.f0.length c0_0, .slice A0_1 x0.f1.length c0_1] 84] [(cF kI A0_0 x0.f0), (cF kS98 A0_1 x0.f1), (cF kI A1_0 x1.f0)] [(rF kI t50.1.f0 I57), (rF kI t37.f0 I42), (rF kI t26.f0 I33)]) [1, 3, 4, 5, 6, 7, 8] 2 ?_ (fun X25 => ?_)
 · rintro E_ w145 ⟨b61, A44, t26, c45, A46, c47, A48, t37, c49, v53, v55, t50, I59, bl60, I57, I42, I35, bl36, I33, rfl, H, HS⟩
   obtain ⟨A147, c148, rfl⟩ := row_slice (HS.mu 3 rfl)
   obtain ⟨A149, c150, rfl⟩ := row_slice (HS.mu 1 rfl)
   refine WD.storeS 9 HS 0 rfl rfl rfl rfl (oneL rfl) (by kernel_rfl) (ble_ rfl) (cs' := #[(.slice A147 t50.1.f0.length c148), (.slice A149 t50.1.f1.length c150)]) (by kernel_rfl) (fun w146 HS => ?_)
   dsimp only [List.set] at HS
   refine ⟨⟨HS.nowO, HS.nowN.2.2.2, ⟨(HS.mu 8 rfl), (HS.mu 9 rfl), trivial⟩⟩, ?_⟩
   exact by (
   refine dp_ 10 (fun _ => Run.assign rfl rfl) ?_
   refine dd_ (via_ hK23 (sr_ fun _ hK151 => ?_))
   clear hK23
   refine v_ (ls_ (HS.mu 9 rfl) underlying84 part_all) ?_
   obtain ⟨t152, ha153, H⟩ := bind_some H
   refine c_ func60 (laws_toStore.runs k (⟨x0.f0, x0.f1⟩ : S84) A0_0 c0_0 A0_1 c0_1 t152 _ (HS.getO 0 rfl) hc0_0 (HS.getO 1 rfl) hc0_1 ha153) ?_
   clear ha153
   rintro _ w154 ⟨v155, bl156, v157, bl158, rfl, hO_, hb⟩
   exact by (
   replace HS := HS.got hb hO_
   dsimp only [List.cons_append, List.nil_append] at HS
   clear hO_
   obtain ⟨I159, bl160, HS⟩ := HS.unseal (sz := 1) rfl
   replace HS := HS.freezeN 1 (p := (rF kI t152.f0 I159)) rfl (fun _ hP_ _ => RepsB.reps hP_)
   dsimp only [List.eraseIdx] at HS
   replace HS := HS.front 1 rfl
   dsimp only [List.eraseIdx] at HS
   exact by (
   obtain ⟨I161, bl162, HS⟩ := HS.unseal (sz := 1) rfl
   refine ⟨_, rfl, ?_⟩
   clear hb
   refine WL.alloc HS (v := .agg #[sn, sn]) (cs := #[sn, sn]) rfl rfl (by decide) rfl (by kernel_rfl) rfl (fun b163 w164 hb163 HS => ?_)
   obtain ⟨A166, c167, rfl⟩ := row_slice (HS.mu 3 rfl)
   obtain ⟨A168, c169, rfl⟩ := row_slice (HS.mu 1 rfl)
   refine WL.storeW HS 0 rfl rfl rfl rfl rfl rfl (oneL rfl) (by kernel_rfl) rfl (fun w165 HS => ?_)
   dsimp only [List.set] at HS
   exact by (
   refine dn_ hK151 (sr_ fun _ hK170 => ?_)
   clear hK151
   refine v_ (ls_ (HS.mu 12 rfl) underlying85 part_all) ?_
   obtain ⟨t171, ha172, H⟩ := bind_some H
   refine c_ func61 (laws_toTable.runs k (⟨x1.f0, x1.f1⟩ : S85) A1_0 c1_0 t171 _ (HS.getO 2 rfl) hc1_0 ha172) ?_
   clear ha172
   rintro _ w173 ⟨v174, bl175, rfl, hO_, hb⟩
   replace HS := HS.got hb hO_
   exact by (
   dsimp only [List.cons_append, List.nil_append] at HS
   clear hO_
   obtain ⟨I176, bl177, HS⟩ := HS.unseal (sz := 1) rfl
   replace HS := HS.freezeN 1 (p := (rF kI t171.f0 I176)) rfl (fun _ hP_ _ => RepsB.reps hP_)
   dsimp only [List.eraseIdx] at HS
   refine ⟨_, rfl, ?_⟩
   clear hb
   refine WL.alloc HS (v := .agg #[sn, vi 0]) (cs := #[sn, vi 0]) rfl rfl (by decide) rfl (by kernel_rfl) rfl (fun b178 w179 hb178 HS => ?_)
   exact by (
   obtain ⟨A181, c182, rfl⟩ := row_slice (HS.mu 1 rfl)
   refine WL.storeW HS 0 rfl rfl rfl rfl rfl rfl (oneL rfl) (by kernel_rfl) rfl (fun w180 HS => ?_)
   dsimp only [List.set] at HS
   refine dn_ hK170 (sr_ fun _ hK183 => ?_)
   clear hK170
   refine v_ (ls_ (HS.mu 2 rfl) underlying58 part_all) ?_
   refine v_ (ls_ (HS.mu 0 rfl) underlying67 part_all) ?_
   obtain ⟨t184, ha185, H⟩ := bind_some H
   exact by (
   refine c_ func55 (impl_DropTable.runs k (⟨t152.f0, t152.f1⟩ : S58) A166 c167 A168 c169 (⟨t171.f0, t171.f1⟩ : S67) A181 c182 t184.1 t184.2 _ (row_C rfl (HS.mu 5 rfl) (HS.getN 1 rfl)) (row_le (HS.mu 5 rfl)) (row_C rfl (HS.mu 3 rfl) (HS.elsK 4 rfl)) (row_le (HS.mu 3 rfl)) (row_C rfl (HS.mu 1 rfl) (HS.getN 0 rfl)) (row_le (HS.mu 1 rfl)) ha185) ?_
   clear ha185
   rintro _ w186 ⟨v187, bl188, v189, bl190, rfl, hO_, hb⟩
   replace HS := HS.got hb hO_
   dsimp only [List.cons_append, List.nil_append] at HS
   clear hO_
   obtain ⟨I191, bl192, HS⟩ := HS.unseal (sz := 1) rfl
   replace HS := HS.freezeN 1 (p := (rF kI t184.1.f0 I191)) rfl (fun _ hP_ _ => RepsB.reps hP_)
   exact by (
   dsimp only [List.eraseIdx] at HS
   replace HS := HS.front 1 rfl
   dsimp only [List.eraseIdx] at HS
   obtain ⟨I193, bl194, HS⟩ := HS.unseal (sz := 1) rfl
   refine ⟨_, rfl, ?_⟩
   clear hb
   refine mv_ ?_
   refine v_ (Run.extract rfl rfl rfl) ?_
   exact by (
   refine v_ (Run.extract rfl rfl rfl) ?_
   refine WL.alloc HS (v := .agg #[sn, sn]) (cs := #[sn, sn]) rfl rfl (by decide) rfl (by kernel_rfl) rfl (fun b195 w196 hb195 HS => ?_)
   obtain ⟨A198, c199, rfl⟩ := row_slice (HS.mu 3 rfl)
   obtain ⟨A200, c201, rfl⟩ := row_slice (HS.mu 1 rfl)
   refine WL.storeW HS 0 rfl rfl rfl rfl rfl rfl (oneL rfl) (by kernel_rfl) rfl (fun w197 HS => ?_)
   dsimp only [List.set] at HS
   refine ad_ hK183 ?_
   clear hK183
   exact by (
   refine WC.seq fun _ hK202 => ?_
   refine sr_ fun _ hK203 => ?_
   refine v_ (ls_ (HS.mu 0 rfl) underlying58 part_all) ?_
   refine v_ (ls_ (HS.mu 10 rfl) underlying58 part_all) ?_
   obtain ⟨t204, ha205, H⟩ := bind_some H
   refine cs_ HS func63 (laws_eqStore.runs k (⟨t184.1.f0, t184.1.f1⟩ : S58) A198 c199 A200 c201 (⟨t50.1.f0, t50.1.f1⟩ : S58) A147 c148 A149 c150 t204 _ (row_C rfl (HS.mu 3 rfl) (HS.getN 0 rfl)) (row_le (HS.mu 3 rfl)) (row_C rfl (HS.mu 1 rfl) (HS.elsK 2 rfl)) (row_le (HS.mu 1 rfl)) (row_C rfl (HS.mu 13 rfl) (HS.getN 3 rfl)) (row_le (HS.mu 13 rfl)) (row_C rfl (HS.mu 11 rfl) (HS.elsK 12 rfl)) (row_le (HS.mu 11 rfl)) ha205) (fun w206 HS => ?_)
   clear ha205
   refine nt_ ?_
   exact by (
   refine mv_ ?_
   rcases eti_ H with ⟨c207, H⟩ | ⟨c207, H⟩
   · refine off_ (c' := true) (nB (bF c207)) ?_
     refine WL.know 49 (nB (bF c207)) ?_
     refine fast_ ?_
     refine via_ hK203 (wy_ rfl ?_)
     clear hK203
     refine sr_ fun _ hK492 => ?_
     exact by (
     refine ad_ hK492 ?_
     clear hK492
     obtain rfl := os H
     exact rt1 Try.f12 rfl rfl hR_ ⟨rfl, HS.b⟩ )
   refine on_ (nB c207) (mv_ ?_)
   refine on_ (nB c207) (mv_ ?_)
   refine on_ (nB c207) (v_ (Run.binB rfl rfl rfl (bin_neqB underlying4)) ?_)
   refine v_ (Run.pickF rfl rfl (nB c207) rfl) ?_
   exact by (
   refine dn_ hK203 ?_
   clear hK203
   rcases eti_ H with ⟨c208, H⟩ | ⟨c208, H⟩
   · refine wy_ (qT c208) (sr_ fun _ hK491 => ?_)
     refine ad_ hK491 ?_
     clear hK491
     obtain rfl := os H
     exact rt1 Try.f12 rfl rfl hR_ ⟨rfl, HS.b⟩
   exact by (
   refine wn_ (qF c208) (WC.skip (via_ hK202 (WC.seq fun _ hK209 => ?_)))
   clear hK202
   refine WC.seq fun _ hK210 => ?_
   refine WC.drawS HS [] rfl rfl (fun w211 HS => ?_)
   have HB := Below.refl w211.heap.size w211
   have HSW := HS
   refine dt_ 0 (Below.refl _ _) (fun w_ hw_ => Run.loadS (cs := [(.slice A166 t152.f0.length c167), (.slice A168 t152.f1.length c169)]) rfl rfl underlying58 rfl (by kernel_rfl) (box_part ((HS.below hw_).mu 6 rfl) part_all)) ?_
   refine dt_ 1 (Below.refl _ _) (fun w_ hw_ => Run.loadS (cs := [.slice A0_0 x0.f0.length c0_0, .slice A0_1 x0.f1.length c0_1]) rfl rfl underlying84 rfl (by kernel_rfl) (box_part ((HS.below hw_).mu 19 rfl) part_all)) ?_
   exact by (
   obtain ⟨t212, ha213, H⟩ := bind_some H
   refine dc_ 2 (w_none rfl) func60 (laws_toStore.runs k (⟨x0.f0, x0.f1⟩ : S84) A0_0 c0_0 A0_1 c0_1 t212 _ (HS.getO 0 rfl) hc0_0 (HS.getO 1 rfl) hc0_1 ha213) ?_
   clear ha213
   rintro _ w214 ⟨v215, bl216, v217, bl218, rfl, hO_, hb⟩
   replace HB := HB.trans (hb.mono HB.size)
   replace HS := HS.got hb hO_
   dsimp only [List.cons_append, List.nil_append] at HS
   clear hO_
   exact by (
   obtain ⟨I219, bl220, HS⟩ := HS.unseal (sz := 1) rfl
   replace HS := HS.freezeN 1 (p := (rF kI t212.f0 I219)) rfl (fun _ hP_ _ => RepsB.reps hP_)
   dsimp only [List.eraseIdx] at HS
   replace HS := HS.front 1 rfl
   dsimp only [List.eraseIdx] at HS
   obtain ⟨I221, bl222, HS⟩ := HS.unseal (sz := 1) rfl
   refine ⟨HB, _, rfl, ?_⟩
   clear hb
   exact by (
   obtain ⟨A223, c224, rfl⟩ := row_slice (HS.mu 2 rfl)
   obtain ⟨A225, c226, rfl⟩ := row_slice (HS.mu 0 rfl)
   obtain ⟨t227, ha228, H⟩ := bind_some H
   refine dcs_ HS HB 3 (w_none rfl) func63 (laws_eqStore.runs k (⟨t152.f0, t152.f1⟩ : S58) A166 c167 A168 c169 t212 A223 c224 A225 c226 t227 _ (row_C rfl (HS.mu 12 rfl) (HS.getN 3 rfl)) (row_le (HS.mu 12 rfl)) (row_C rfl (HS.mu 10 rfl) (HS.elsK 11 rfl)) (row_le (HS.mu 10 rfl)) (row_C rfl (HS.mu 2 rfl) (HS.getN 0 rfl)) (row_le (HS.mu 2 rfl)) (row_C rfl (HS.mu 0 rfl) (HS.elsK 1 rfl)) (row_le (HS.mu 0 rfl)) ha228) (fun w229 HS HB => ?_)
   clear ha228
   refine dp_ 4 (fun _ => Run.not rfl rfl) ?_
   refine dd_ ?_
   clear HB HSW
   exact by (
   refine via_ hK210 ?_
   clear hK210
   rcases eti_ H with ⟨c230, H⟩ | ⟨c230, H⟩
   · refine wy_ (nB (bF c230)) (sr_ fun _ hK490 => ?_)
     refine ad_ hK490 ?_
     clear hK490
     obtain rfl := os H
     exact rt1 Try.f12 rfl rfl hR_ ⟨rfl, HS.b⟩
   exact by (
   refine wn_ (nB c230) (WC.skip (via_ hK209 (WC.seq fun _ hK231 => ?_)))
   clear hK209
   refine WC.seq fun _ hK232 => ?_
   refine WC.drawS HS [] rfl rfl (fun w233 HS => ?_)
   have HB := Below.refl w233.heap.size w233
   have HSW := HS
   refine dt_ 0 (Below.refl _ _) (fun w_ hw_ => Run.loadS (cs := [(.slice A181 t171.f0.length c182), vi t171.f1]) rfl rfl underlying67 rfl (by kernel_rfl) (box_part ((HS.below hw_).mu 7 rfl) part_all)) ?_
   refine dt_ 1 (Below.refl _ _) (fun w_ hw_ => Run.loadS (cs := [.slice A1_0 x1.f0.length c1_0, vi x1.f1]) rfl rfl underlying85 rfl (by kernel_rfl) (box_part ((HS.below hw_).mu 21 rfl) part_all)) ?_
   exact by (
   obtain ⟨t234, ha235, H⟩ := bind_some H
   refine dc_ 2 (w_none rfl) func61 (laws_toTable.runs k (⟨x1.f0, x1.f1⟩ : S85) A1_0 c1_0 t234 _ (HS.getO 2 rfl) hc1_0 ha235) ?_
   clear ha235
   rintro _ w236 ⟨v237, bl238, rfl, hO_, hb⟩
   replace HB := HB.trans (hb.mono HB.size)
   replace HS := HS.got hb hO_
   dsimp only [List.cons_append, List.nil_append] at HS
   clear hO_
   exact by (
   obtain ⟨I239, bl240, HS⟩ := HS.unseal (sz := 1) rfl
   replace HS := HS.freezeN 1 (p := (rF kI t234.f0 I239)) rfl (fun _ hP_ _ => RepsB.reps hP_)
   dsimp only [List.eraseIdx] at HS
   refine ⟨HB, _, rfl, ?_⟩
   clear hb
   obtain ⟨A241, c242, rfl⟩ := row_slice (HS.mu 0 rfl)
   obtain ⟨t243, ha244, H⟩ := bind_some H
   refine dcs_ HS HB 3 (w_none rfl) func64 (laws_eqTable.runs k (⟨t171.f0, t171.f1⟩ : S67) A181 c182 t234 A241 c242 t243 _ (row_C rfl (HS.mu 9 rfl) (HS.getN 3 rfl)) (row_le (HS.mu 9 rfl)) (row_C rfl (HS.mu 0 rfl) (HS.getN 0 rfl)) (row_le (HS.mu 0 rfl)) ha244) (fun w245 HS HB => ?_)
   exact by (
   clear ha244
   refine dp_ 4 (fun _ => Run.not rfl rfl) ?_
   refine dd_ ?_
   clear HB HSW
   refine via_ hK232 ?_
   clear hK232
   rcases eti_ H with ⟨c246, H⟩ | ⟨c246, H⟩
   · refine wy_ (nB (bF c246)) (sr_ fun _ hK489 => ?_)
     exact by (
     refine ad_ hK489 ?_
     clear hK489
     obtain rfl := os H
     exact rt1 Try.f12 rfl rfl hR_ ⟨rfl, HS.b⟩ )
   refine wn_ (nB c246) (WC.skip (via_ hK231 (sr_ fun _ hK247 => ?_)))
   clear hK231
   refine ad_ hK247 ?_
   clear hK247
   exact by (
   refine sr_ fun _ hK248 => ?_
   refine v_ (ls_ (HS.mu 10 rfl) underlying58 part_all) ?_
   refine mv_ ?_
   refine ci_ (args := [.agg #[(.slice A166 t152.f0.length c167), (.slice A168 t152.f1.length c169)], vi 1]) func65 ?_
   refine cw_ (n := 14) func65 fun _ hR249 => ?_
   refine sr_ fun _ hK250 => ?_
   refine bo_ HS (fun b251 w252 hb251 HS => ?_)
   refine ad_ hK250 ?_
   exact by (
   clear hK250
   refine sr_ fun _ hK253 => ?_
   refine v_ (fa_ underlying58) ?_
   refine v_ (lb_ (HS.mu 0 rfl) underlying22 rfl) ?_
   refine mv_ ?_
   replace HS := HS.elsF (xs := t152.f0) (inner := I159) (Dk.int .i64) (fun _ _ _ h_ => ⟨h_, rfl⟩) (fun _ => (HS.getN 4 rfl))
   replace HS := HS.front 15 rfl
   dsimp only [List.eraseIdx] at HS
   exact by (
   replace HS := HS.seal rfl rfl
   obtain ⟨Lv254, hL255, HS⟩ := HS.pre2 lf3
   obtain ⟨⟨q256, q257⟩, H⟩ := if_some H
   refine c_ func20 (laws_markIntS.leaf A166 t152.f0.length c167 1 Lv254 _ (HS.preK 0 rfl) q256 (by rw [hL255]; exact q257) (1 + ((n22 t152.f0) : Int)) (by rw [hL255]; rfl)) ?_
   rintro _ w258 ⟨rfl, hm_⟩
   replace HS := HS.marked 0 rfl hm_
   dsimp only [List.set] at HS
   refine ⟨_, rfl, ?_⟩
   exact by (
   clear hm_
   have hn259 : ¬ (1 + ((n22 t152.f0) : Int)) < 0 := by omega
   refine ad_ hK253 ?_
   clear hK253
   refine sr_ fun _ hK260 => ?_
   refine v_ (fa_ underlying58) ?_
   refine v_ (lb_ (HS.mu 1 rfl) underlying56 rfl) ?_
   refine mv_ ?_
   exact by (
   replace HS := HS.front 14 rfl
   dsimp only [List.eraseIdx] at HS
   replace HS := HS.front 14 rfl
   dsimp only [List.eraseIdx] at HS
   replace HS := HS.seal rfl rfl
   obtain ⟨Lv261, hL262, HS⟩ := HS.pre2 lf71
   obtain ⟨⟨q263, q264⟩, H⟩ := if_some H
   refine c_ func128 (laws_markCellSS.leaf A168 t152.f1.length c169 (1 + ((n22 t152.f0) : Int)) Lv261 _ (HS.preK 0 rfl) q263 (by rw [hL262]; exact q264) ((1 + ((n22 t152.f0) : Int)) + ((n56 t152.f1) : Int)) (by rw [hL262]; rfl)) ?_
   exact by (
   rintro _ w265 ⟨rfl, hm_⟩
   replace HS := HS.marked 0 rfl hm_
   dsimp only [List.set] at HS
   refine ⟨_, rfl, ?_⟩
   clear hm_
   have hn266 : ¬ ((1 + ((n22 t152.f0) : Int)) + ((n56 t152.f1) : Int)) < 0 := by omega
   refine ad_ hK260 ?_
   clear hK260
   exact by (
   refine sr_ fun _ hK267 => ?_
   refine mv_ ?_
   refine ad_ hK267 ?_
   clear hK267
   refine WC.ret ?_
   refine fin1 Try.f65 rfl rfl hR249 ⟨_, rfl, ?_⟩
   refine ad_ hK248 ?_
   clear hK248
   exact by (
   refine sr_ fun _ hK268 => ?_
   refine v_ (ls_ (HS.mu 11 rfl) underlying67 part_all) ?_
   refine mv_ ?_
   refine ci_ (args := [.agg #[(.slice A181 t171.f0.length c182), vi t171.f1], vi ((1 + ((n22 t152.f0) : Int)) + ((n56 t152.f1) : Int))]) func66 ?_
   refine cw_ (n := 10) func66 fun _ hR269 => ?_
   refine sr_ fun _ hK270 => ?_
   refine bo_ HS (fun b271 w272 hb271 HS => ?_)
   refine ad_ hK270 ?_
   exact by (
   clear hK270
   refine sr_ fun _ hK273 => ?_
   refine v_ (fa_ underlying67) ?_
   refine v_ (lb_ (HS.mu 0 rfl) underlying22 rfl) ?_
   refine mv_ ?_
   replace HS := HS.elsF (xs := t171.f0) (inner := I176) (Dk.int .i64) (fun _ _ _ h_ => ⟨h_, rfl⟩) (fun _ => (HS.getN 3 rfl))
   replace HS := HS.front 14 rfl
   dsimp only [List.eraseIdx] at HS
   exact by (
   replace HS := HS.seal rfl rfl
   obtain ⟨Lv274, hL275, HS⟩ := HS.pre2 lf3
   obtain ⟨⟨q276, q277⟩, H⟩ := if_some H
   refine c_ func20 (laws_markIntS.leaf A181 t171.f0.length c182 ((1 + ((n22 t152.f0) : Int)) + ((n56 t152.f1) : Int)) Lv274 _ (HS.preK 0 rfl) q276 (by rw [hL275]; exact q277) (((1 + ((n22 t152.f0) : Int)) + ((n56 t152.f1) : Int)) + ((n22 t171.f0) : Int)) (by rw [hL275]; rfl)) ?_
   rintro _ w278 ⟨rfl, hm_⟩
   replace HS := HS.marked 0 rfl hm_
   dsimp only [List.set] at HS
   refine ⟨_, rfl, ?_⟩
   exact by (
   clear hm_
   have hn279 : ¬ (((1 + ((n22 t152.f0) : Int)) + ((n56 t152.f1) : Int)) + ((n22 t171.f0) : Int)) < 0 := by omega
   refine ad_ hK273 ?_
   clear hK273
   refine sr_ fun _ hK280 => ?_
   refine mv_ ?_
   refine ad_ hK280 ?_
   clear hK280
   exact by (
   refine WC.ret ?_
   refine fin1 Try.f66 rfl rfl hR269 ⟨_, rfl, ?_⟩
   refine ad_ hK268 ?_
   clear hK268
   refine WC.seq fun _ hK281 => ?_
   refine sr_ fun _ hK282 => ?_
   refine mv_ ?_
   refine b_ bin_lss ?_
   exact by (
   refine mv_ ?_
   refine on_ (dF hn279) (v_ (ls_ (HS.mu 9 rfl) underlying58 part_all) ?_)
   refine on_ (dF hn279) (v_ (ls_ (HS.mu 15 rfl) underlying58 part_all) ?_)
   refine on_ (dF hn279) ?_
   obtain ⟨t283, ha284, H⟩ := bind_some H
   refine cs_ HS func63 (laws_eqStore.runs k (⟨t184.1.f0, t184.1.f1⟩ : S58) A198 c199 A200 c201 (⟨t50.1.f0, t50.1.f1⟩ : S58) A147 c148 A149 c150 t283 _ (row_C rfl (HS.mu 12 rfl) (HS.getN 2 rfl)) (row_le (HS.mu 12 rfl)) (row_C rfl (HS.mu 10 rfl) (HS.elsK 11 rfl)) (row_le (HS.mu 10 rfl)) (row_C rfl (HS.mu 18 rfl) (HS.getN 5 rfl)) (row_le (HS.mu 18 rfl)) (row_C rfl (HS.mu 16 rfl) (HS.elsK 17 rfl)) (row_le (HS.mu 16 rfl)) ha284) (fun w285 HS => ?_)
   clear ha284
   refine on_ (dF hn279) (nt_ ?_)
   exact by (
   refine v_ (Run.pickF rfl rfl (dF hn279) rfl) ?_
   refine mv_ ?_
   rcases eti_ H with ⟨c286, H⟩ | ⟨c286, H⟩
   · refine off_ (c' := true) (nB (bF c286)) ?_
     refine WL.know 78 (nB (bF c286)) ?_
     refine fast_ ?_
     refine via_ hK282 (wy_ rfl ?_)
     clear hK282
     exact by (
     refine sr_ fun _ hK488 => ?_
     refine ad_ hK488 ?_
     clear hK488
     obtain rfl := os H
     exact rt1 Try.f12 rfl rfl hR_ ⟨rfl, HS.b⟩ )
   refine on_ (nB c286) (mv_ ?_)
   refine on_ (nB c286) (mv_ ?_)
   refine on_ (nB c286) (v_ (Run.binB rfl rfl rfl (bin_neqB underlying4)) ?_)
   exact by (
   refine v_ (Run.pickF rfl rfl (nB c286) rfl) ?_
   refine dn_ hK282 (wn_ (qF c208) (WC.skip (via_ hK281 (sr_ fun _ hK287 => ?_))))
   clear hK282 hK281
   refine ad_ hK287 ?_
   clear hK287
   refine sr_ fun _ hK288 => ?_
   refine v_ (ls_ (HS.mu 9 rfl) underlying58 part_all) ?_
   refine mv_ ?_
   exact by (
   refine ci_ (args := [.agg #[(.slice A198 t184.1.f0.length c199), (.slice A200 t184.1.f1.length c201)], vi 1]) func65 ?_
   refine cw_ (n := 14) func65 fun _ hR289 => ?_
   refine sr_ fun _ hK290 => ?_
   refine bo_ HS (fun b291 w292 hb291 HS => ?_)
   refine ad_ hK290 ?_
   clear hK290
   refine sr_ fun _ hK293 => ?_
   refine v_ (fa_ underlying58) ?_
   exact by (
   refine v_ (lb_ (HS.mu 0 rfl) underlying22 rfl) ?_
   refine mv_ ?_
   replace HS := HS.elsF (xs := t184.1.f0) (inner := I191) (Dk.int .i64) (fun _ _ _ h_ => ⟨h_, rfl⟩) (fun _ => (HS.getN 2 rfl))
   replace HS := HS.front 14 rfl
   dsimp only [List.eraseIdx] at HS
   replace HS := HS.seal rfl rfl
   obtain ⟨Lv294, hL295, HS⟩ := HS.pre2 lf3
   obtain ⟨⟨q296, q297⟩, H⟩ := if_some H
   exact by (
   refine c_ func20 (laws_markIntS.leaf A198 t184.1.f0.length c199 1 Lv294 _ (HS.preK 0 rfl) q296 (by rw [hL295]; exact q297) (1 + ((n22 t184.1.f0) : Int)) (by rw [hL295]; rfl)) ?_
   rintro _ w298 ⟨rfl, hm_⟩
   replace HS := HS.marked 0 rfl hm_
   dsimp only [List.set] at HS
   refine ⟨_, rfl, ?_⟩
   clear hm_
   have hn299 : ¬ (1 + ((n22 t184.1.f0) : Int)) < 0 := by omega
   refine ad_ hK293 ?_
   exact by (
   clear hK293
   refine sr_ fun _ hK300 => ?_
   refine v_ (fa_ underlying58) ?_
   refine v_ (lb_ (HS.mu 1 rfl) underlying56 rfl) ?_
   refine mv_ ?_
   replace HS := HS.front 13 rfl
   dsimp only [List.eraseIdx] at HS
   replace HS := HS.front 13 rfl
   exact by (
   dsimp only [List.eraseIdx] at HS
   replace HS := HS.seal rfl rfl
   obtain ⟨Lv301, hL302, HS⟩ := HS.pre2 lf71
   obtain ⟨⟨q303, q304⟩, H⟩ := if_some H
   refine c_ func128 (laws_markCellSS.leaf A200 t184.1.f1.length c201 (1 + ((n22 t184.1.f0) : Int)) Lv301 _ (HS.preK 0 rfl) q303 (by rw [hL302]; exact q304) ((1 + ((n22 t184.1.f0) : Int)) + ((n56 t184.1.f1) : Int)) (by rw [hL302]; rfl)) ?_
   rintro _ w305 ⟨rfl, hm_⟩
   replace HS := HS.marked 0 rfl hm_
   dsimp only [List.set] at HS
   exact by (
   refine ⟨_, rfl, ?_⟩
   clear hm_
   have hn306 : ¬ ((1 + ((n22 t184.1.f0) : Int)) + ((n56 t184.1.f1) : Int)) < 0 := by omega
   refine ad_ hK300 ?_
   clear hK300
   refine sr_ fun _ hK307 => ?_
   refine mv_ ?_
   refine ad_ hK307 ?_
   exact by (
   clear hK307
   refine WC.ret ?_
   refine fin1 Try.f65 rfl rfl hR289 ⟨_, rfl, ?_⟩
   refine ad_ hK288 ?_
   clear hK288
   refine sr_ fun _ hK308 => ?_
   refine ad_ hK308 ?_
   clear hK308
   exact by (
   refine sr_ fun _ hK309 => ?_
   refine v_ (ls_ (HS.mu 12 rfl) underlying58 part_all) ?_
   refine mv_ ?_
   refine ci_ (args := [.agg #[(.slice A198 t184.1.f0.length c199), (.slice A200 t184.1.f1.length c201)], vi 1]) func70 ?_
   refine cw_ (n := 18) func70 fun _ hR310 => ?_
   refine sr_ fun _ hK311 => ?_
   refine bo_ HS (fun b312 w313 hb312 HS => ?_)
   refine ad_ hK311 ?_
   exact by (
   clear hK311
   refine sr_ fun _ hK314 => ?_
   refine v_ (fa_ underlying58) ?_
   refine v_ (lb_ (HS.mu 0 rfl) underlying22 rfl) ?_
   refine mv_ ?_
   refine c_ func32 (laws_heldIntS.leaf A198 t184.1.f0.length c199 1 Lv294 _ (HS.leafK 2 rfl) (HS.leafT 2 rfl) q296 (by rw [hL295]; exact q297) (1 + ((n22 t184.1.f0) : Int)) (by rw [hL295]; rfl)) ?_
   rintro _ w315 ⟨rfl, hm_⟩
   replace HS := HS.below hm_
   exact by (
   refine ⟨_, rfl, ?_⟩
   clear hm_
   have hn316 : ¬ (1 + ((n22 t184.1.f0) : Int)) < 0 := by omega
   refine ad_ hK314 ?_
   clear hK314
   refine WC.seq fun _ hK317 => ?_
   refine sr_ fun _ hK318 => ?_
   refine mv_ ?_
   exact by (
   refine b_ bin_lss ?_
   refine dn_ hK318 (wn_ (dF hn316) (WC.skip (via_ hK317 (sr_ fun _ hK319 => ?_))))
   clear hK318 hK317
   refine v_ (fa_ underlying58) ?_
   refine v_ (lb_ (HS.mu 0 rfl) underlying56 rfl) ?_
   refine mv_ ?_
   refine c_ func131 (laws_heldCellSS.leaf A200 t184.1.f1.length c201 (1 + ((n22 t184.1.f0) : Int)) Lv301 _ (HS.leafK 1 rfl) (HS.leafT 1 rfl) q303 (by rw [hL302]; exact q304) ((1 + ((n22 t184.1.f0) : Int)) + ((n56 t184.1.f1) : Int)) (by rw [hL302]; rfl)) ?_
   rintro _ w320 ⟨rfl, hm_⟩
   exact by (
   replace HS := HS.below hm_
   refine ⟨_, rfl, ?_⟩
   clear hm_
   have hn321 : ¬ ((1 + ((n22 t184.1.f0) : Int)) + ((n56 t184.1.f1) : Int)) < 0 := by omega
   refine ad_ hK319 ?_
   clear hK319
   refine WC.seq fun _ hK322 => ?_
   refine sr_ fun _ hK323 => ?_
   exact by (
   refine mv_ ?_
   refine b_ bin_lss ?_
   refine dn_ hK323 (wn_ (dF hn321) (WC.skip (via_ hK322 (sr_ fun _ hK324 => ?_))))
   clear hK323 hK322
   refine mv_ ?_
   refine ad_ hK324 ?_
   clear hK324
   refine WC.ret ?_
   exact by (
   refine fin1 Try.f70 rfl rfl hR310 ⟨_, rfl, ?_⟩
   refine ad_ hK309 ?_
   clear hK309
   refine WC.seq fun _ hK325 => ?_
   refine sr_ fun _ hK326 => ?_
   refine mv_ ?_
   refine b_ bin_lss ?_
   refine dn_ hK326 (wn_ (dF hn321) (WC.skip (via_ hK325 (WC.seq fun _ hK327 => ?_))))
   exact by (
   clear hK326 hK325
   refine sr_ fun _ hK328 => ?_
   refine mv_ ?_
   refine mv_ ?_
   refine b_ bin_neq ?_
   refine dn_ hK328 (wn_ (qF rfl) (WC.skip (via_ hK327 (WC.seq fun _ hK329 => ?_))))
   clear hK328 hK327
   refine WC.drawW HS [boxM b4 #[.slice A1_0 x1.f0.length c1_0, vi x1.f1] 85, boxM b2 #[.slice A0_0 x0.f0.length c0_0, .slice A0_1 x0.f1.length c0_1] 84] (fun _ HS => ⟨(HS.mu 24 rfl), (HS.mu 25 rfl), trivial⟩) [] rfl rfl (fun w330 HS => ?_)
   exact by (
   refine dt_ 0 ⟨HS.nowO, HS.nowN, ⟨(HS.mu 24 rfl), (HS.mu 25 rfl), trivial⟩⟩ (fun w_ hw_ => Run.loadS (cs := [.slice A0_0 x0.f0.length c0_0, .slice A0_1 x0.f1.length c0_1]) rfl rfl underlying84 rfl (by kernel_rfl) (box_part hw_.2.2.2.1 part_all)) ?_
   refine dt_ 2 ⟨HS.nowO, HS.nowN, ⟨(HS.mu 24 rfl), (HS.mu 25 rfl), trivial⟩⟩ (fun w_ hw_ => Run.loadS (cs := [.slice A1_0 x1.f0.length c1_0, vi x1.f1]) rfl rfl underlying85 rfl (by kernel_rfl) (box_part hw_.2.2.1 part_all)) ?_
   refine joinWD (fun E_ W_ => ∃ (b367 : Nat) (A350 : Option Addr) (t332 : S58) (c351 : Nat) (A352 : Option Addr) (c353 : Nat) (A354 : Option Addr) (t343 : S67) (c355 : Nat) (v359 : Value) (v361 : Value) (t356 : S58 × Bool) (I365 : List Value) (bl366 : List Nat) (I363 : List Value) (I348 : List Value) (I341 : List Value) (bl342 : List Nat) (I339 : List Value), E_ = [(0, .agg #[.slice A0_0 x0.f0.length c0_0, .slice A0_1 x0.f1.length c0_1]), (1, .agg #[.slice A1_0 x1.f0.length c1_0, vi x1.f1]), (2, .pointer (some ⟨b2, 0, none⟩)), (3, .pointer (some ⟨b4, 0, none⟩)), (4, .bool false), (5, vi t16), (6, .pointer (some ⟨b61, 0, none⟩)), (7, .bool t50.2), (8, .pointer (some ⟨b163, 0, none⟩)), (9, .pointer (some ⟨b178, 0, none⟩)), (10, .pointer (some ⟨b195, 0, none⟩)), (11, .bool t184.2), (12, vi (((1 + ((n22 t152.f0) : Int)) + ((n56 t152.f1) : Int)) + ((n22 t171.f0) : Int))), (13, vi ((1 + ((n22 t184.1.f0) : Int)) + ((n56 t184.1.f1) : Int))), (14, vi ((1 + ((n22 t184.1.f0) : Int)) + ((n56 t184.1.f1) : Int))), (15, .pointer (some ⟨b367, 0, none⟩)), (17, .agg #[.slice A0_0 x0.f0.length c0_0, .slice A0_1 x0.f1.length c0_1]), (18, vi 1048576), (19, vi t8), (20, vi t8), (21, .bool (decide (t8 < 0))), (22, .agg #[.slice A1_0 x1.f0.length c1_0, vi x1.f1]), (23, vi t8), (24, vi t16), (25, vi t16), (26, .bool (decide (t16 < 0))), (28, .agg #[.slice A0_0 x0.f0.length c0_0, .slice A0_1 x0.f1.length c0_1]), (29, .agg #[(.slice A44 t26.f0.length c45), (.slice A46 t26.f1.length c47)]), (30, .agg #[.slice A1_0 x1.f0.length c1_0, vi x1.f1]), (31, .agg #[(.slice A48 t37.f0.length c49), vi t37.f1]), (33, .agg #[(.slice A147 t50.1.f0.length c148), (.slice A149 t50.1.f1.length c150)]), (34, .bool t50.2), (35, .agg #[.slice A0_0 x0.f0.length c0_0, .slice A0_1 x0.f1.length c0_1]), (36, .agg #[(.slice A166 t152.f0.length c167), (.slice A168 t152.f1.length c169)]), (37, .agg #[.slice A1_0 x1.f0.length c1_0, vi x1.f1]), (38, .agg #[(.slice A181 t171.f0.length c182), vi t171.f1]), (40, .agg #[(.slice A166 t152.f0.length c167), (.slice A168 t152.f1.length c169)]), (41, .agg #[(.slice A181 t171.f0.length c182), vi t171.f1]), (43, .agg #[(.slice A198 t184.1.f0.length c199), (.slice A200 t184.1.f1.length c201)]), (44, .bool t184.2), (45, .agg #[(.slice A198 t184.1.f0.length c199), (.slice A200 t184.1.f1.length c201)]), (46, .agg #[(.slice A147 t50.1.f0.length c148), (.slice A149 t50.1.f1.length c150)]), (47, .bool t204), (48, .bool (!t204)), (49, .bool (!t204)), (50, .bool t184.2), (51, .bool t50.2), (52, .bool (t184.2 != t50.2)), (53, .bool (t184.2 != t50.2)), (54, .agg #[(.slice A166 t152.f0.length c167), (.slice A168 t152.f1.length c169)]), (55, .agg #[.slice A0_0 x0.f0.length c0_0, .slice A0_1 x0.f1.length c0_1]), (56, .agg #[(.slice A223 t212.f0.length c224), (.slice A225 t212.f1.length c226)]), (57, .bool t227), (58, .bool (!t227)), (59, .agg #[(.slice A181 t171.f0.length c182), vi t171.f1]), (60, .agg #[.slice A1_0 x1.f0.length c1_0, vi x1.f1]), (61, .agg #[(.slice A241 t234.f0.length c242), vi t234.f1]), (62, .bool t243), (63, .bool (!t243)), (64, .agg #[(.slice A166 t152.f0.length c167), (.slice A168 t152.f1.length c169)]), (65, vi 1), (66, vi ((1 + ((n22 t152.f0) : Int)) + ((n56 t152.f1) : Int))), (67, .agg #[(.slice A181 t171.f0.length c182), vi t171.f1]), (68, vi ((1 + ((n22 t152.f0) : Int)) + ((n56 t152.f1) : Int))), (69, vi (((1 + ((n22 t152.f0) : Int)) + ((n56 t152.f1) : Int)) + ((n22 t171.f0) : Int))), (70, vi (((1 + ((n22 t152.f0) : Int)) + ((n56 t152.f1) : Int)) + ((n22 t171.f0) : Int))), (71, .bool (decide ((((1 + ((n22 t152.f0) : Int)) + ((n56 t152.f1) : Int)) + ((n22 t171.f0) : Int)) < 0))), (72, .bool (decide ((((1 + ((n22 t152.f0) : Int)) + ((n56 t152.f1) : Int)) + ((n22 t171.f0) : Int)) < 0))), (73, .agg #[(.slice A198 t184.1.f0.length c199), (.slice A200 t184.1.f1.length c201)]), (74, .agg #[(.slice A147 t50.1.f0.length c148), (.slice A149 t50.1.f1.length c150)]), (75, .bool t283), (76, .bool (!t283)), (77, .bool (!t283)), (78, .bool (!t283)), (79, .bool t184.2), (80, .bool t50.2), (81, .bool (t184.2 != t50.2)), (82, .bool (t184.2 != t50.2)), (83, .agg #[(.slice A198 t184.1.f0.length c199), (.slice A200 t184.1.f1.length c201)]), (84, vi 1), (85, vi ((1 + ((n22 t184.1.f0) : Int)) + ((n56 t184.1.f1) : Int))), (86, .agg #[(.slice A198 t184.1.f0.length c199), (.slice A200 t184.1.f1.length c201)]), (87, vi 1), (88, vi ((1 + ((n22 t184.1.f0) : Int)) + ((n56 t184.1.f1) : Int))), (89, vi ((1 + ((n22 t184.1.f0) : Int)) + ((n56 t184.1.f1) : Int))), (90, .bool (decide (((1 + ((n22 t184.1.f0) : Int)) + ((n56 t184.1.f1) : Int)) < 0))), (91, vi ((1 + ((n22 t184.1.f0) : Int)) + ((n56 t184.1.f1) : Int))), (92, vi ((1 + ((n22 t184.1.f0) : Int)) + ((n56 t184.1.f1) : Int))), (93, .bool (((1 + ((n22 t184.1.f0) : Int)) + ((n56 t184.1.f1) : Int)) != ((1 + ((n22 t184.1.f0) : Int)) + ((n56 t184.1.f1) : Int)))), (95, .agg #[.slice A0_0 x0.f0.length c0_0, .slice A0_1 x0.f1.length c0_1]), (96, .agg #[(.slice A350 t332.f0.length c351), (.slice A352 t332.f1.length c353)]), (97, .agg #[.slice A1_0 x1.f0.length c1_0, vi x1.f1]), (98, .agg #[(.slice A354 t343.f0.length c355), vi t343.f1]), (100, .agg #[v359, v361]), (101, .bool t356.2)] ∧ ((laws_eqStore.g k (⟨t356.1.f0, t356.1.f1⟩ : S58) (⟨t50.1.f0, t50.1.f1⟩ : S58)).bind fun t459 => (if t459 = true then (if t356.2 = t50.2 then (some true) else (some false)) else (some false))) = some r ∧ St (fun _ => True) w W_ [boxM b367 #[sn, sn] 58, rowM w.heap.size 71 1 v361 t356.1.f1.length I365, elsM (Dk.slice 62 dq62) t356.1.f1 I365 bl366, rowM w.heap.size 3 1 v359 t356.1.f0.length I363, rowM w.heap.size 3 1 (.slice A354 t343.f0.length c355) t343.f0.length I348, rowM w.heap.size 71 1 (.slice A352 t332.f1.length c353) t332.f1.length I341, elsM (Dk.slice 62 dq62) t332.f1 I341 bl342, rowM w.heap.size 3 1 (.slice A350 t332.f0.length c351) t332.f0.length I339, boxM b312 #[(.slice A198 t184.1.f0.length c199), (.slice A200 t184.1.f1.length c201)] 58, leafM sh71 A200 t184.1.f1.length Lv301 (1 + ((n22 t184.1.f0) : Int)) (((.slice A200 t184.1.f1.length c201) : Value).ownBlock.toList ++ bl194), leafM sh3 A198 t184.1.f0.length Lv294 1 (((.slice A198 t184.1.f0.length c199) : Value).ownBlock.toList ++ []), boxM b291 #[(.slice A198 t184.1.f0.length c199), (.slice A200 t184.1.f1.length c201)] 58, leafM sh3 A181 t171.f0.length Lv274 ((1 + ((n22 t152.f0) : Int)) + ((n56 t152.f1) : Int)) (((.slice A181 t171.f0.length c182) : Value).ownBlock.toList ++ []), boxM b271 #[(.slice A181 t171.f0.length c182), vi t171.f1] 67, leafM sh71 A168 t152.f1.length Lv261 (1 + ((n22 t152.f0) : Int)) (((.slice A168 t152.f1.length c169) : Value).ownBlock.toList ++ bl162), leafM sh3 A166 t152.f0.length Lv254 1 (((.slice A166 t152.f0.length c167) : Value).ownBlock.toList ++ []), boxM b251 #[(.slice A166 t152.f0.length c167), (.slice A168 t152.f1.length c169)] 58, rowM w.heap.size 3 1 (.slice A241 t234.f0.length c242) t234.f0.length I239, rowM w.heap.size 71 1 (.slice A225 t212.f1.length c226) t212.f1.length I221, elsM (Dk.slice 62 dq62) t212.f1 I221 bl222, rowM w.heap.size 3 1 (.slice A223 t212.f0.length c224) t212.f0.length I219, boxM b195 #[(.slice A198 t184.1.f0.length c199), (.slice A200 t184.1.f1.length c201)] 58, boxM b178 #[(.slice A181 t171.f0.length c182), vi t171.f1] 67, boxM b163 #[(.slice A166 t152.f0.length c167), (.slice A168 t152.f1.length c169)] 58, boxM b61 #[(.slice A147 t50.1.f0.length c148), (.slice A149 t50.1.f1.length c150)] 58, rowM w.heap.size 71 1 (.slice A149 t50.1.f1.length c150) t50.1.f1.length I59, elsM (Dk.slice 62 dq62) t50.1.f1 I59 bl60, rowM w.heap.size 3 1 (.slice A147 t50.1.f0.length c148) t50.1.f0.length I57, rowM w.heap.size 3 1 (.slice A48 t37.f0.length c49) t37.f0.length I42, rowM w.heap.size 71 1 (.slice A46 t26.f1.length c47) t26.f1.length I35, elsM (Dk.slice 62 dq62) t26.f1 I35 bl36, rowM w.heap.size 3 1 (.slice A44 t26.f0.length c45) t26.f0.length I33, boxM b4 #[.slice A1_0 x1.f0.length c1_0, vi x1.f1] 85, boxM b2 #[.slice A0_0 x0.f0.length c0_0, .slice A0_1 x0.f1.length c0_1] 84] [(cF kI A0_0 x0.f0), (cF kS98 A0_1 x0.f1), (cF kI A1_0 x1.f0)] [(rF kI t356.1.f0 I363), (rF kI t343.f0 I348), (rF kI t332.f0 I339), (rF kI t234.f0 I239), (rF kI t212.f0 I219), (rF kI t184.1.f0 I191), (rF kI t171.f0 I176), (rF kI t152.f0 I159), (rF kI t50.1.f0 I57), (rF kI t37.f0 I42), (rF kI t26.f0 I33)]) [1, 3, 4, 5, 6, 7, 8] 2 ?_ (fun X331 => ?_)
   · rintro E_ w451 ⟨b367, A350, t332, c351, A352, c353, A354, t343, c355, v359, v361, t356, I365, bl366, I363, I348, I341, bl342, I339, rfl, H, HS⟩
     obtain ⟨A453, c454, rfl⟩ := row_slice (HS.mu 3 rfl)
     obtain ⟨A455, c456, rfl⟩ := row_slice (HS.mu 1 rfl)
     refine WD.storeS 9 HS 0 rfl rfl rfl rfl (oneL rfl) (by kernel_rfl) (ble_ rfl) (cs' := #[(.slice A453 t356.1.f0.length c454), (.slice A455 t356.1.f1.length c456)]) (by kernel_rfl) (fun w452 HS => ?_)
     dsimp only [List.set] at HS
     exact by (
     refine ⟨⟨HS.nowO, HS.nowN.2.2.2, ⟨(HS.mu 32 rfl), (HS.mu 33 rfl), trivial⟩⟩, ?_⟩
     refine dp_ 10 (fun _ => Run.assign rfl rfl) ?_
     refine dd_ (via_ hK329 (WC.seq fun _ hK457 => ?_))
     clear hK329
     refine sr_ fun _ hK458 => ?_
     refine v_ (ls_ (HS.mu 0 rfl) underlying58 part_all) ?_
     refine v_ (ls_ (HS.mu 24 rfl) underlying58 part_all) ?_
     obtain ⟨t459, ha460, H⟩ := bind_some H
     exact by (
     refine cs_ HS func63 (laws_eqStore.runs k (⟨t356.1.f0, t356.1.f1⟩ : S58) A453 c454 A455 c456 (⟨t50.1.f0, t50.1.f1⟩ : S58) A147 c148 A149 c150 t459 _ (row_C rfl (HS.mu 3 rfl) (HS.getN 0 rfl)) (row_le (HS.mu 3 rfl)) (row_C rfl (HS.mu 1 rfl) (HS.elsK 2 rfl)) (row_le (HS.mu 1 rfl)) (row_C rfl (HS.mu 27 rfl) (HS.getN 8 rfl)) (row_le (HS.mu 27 rfl)) (row_C rfl (HS.mu 25 rfl) (HS.elsK 26 rfl)) (row_le (HS.mu 25 rfl)) ha460) (fun w461 HS => ?_)
     clear ha460
     refine nt_ ?_
     refine mv_ ?_
     rcases eti_ H with ⟨c462, H⟩ | ⟨c462, H⟩
     · refine off_ (c' := true) (nB (bF c462)) ?_
       refine WL.know 106 (nB (bF c462)) ?_
       refine fast_ ?_
       exact by (
       refine via_ hK458 (wy_ rfl ?_)
       clear hK458
       refine sr_ fun _ hK487 => ?_
       refine ad_ hK487 ?_
       clear hK487
       obtain rfl := os H
       exact rt1 Try.f12 rfl rfl hR_ ⟨rfl, HS.b⟩ )
     refine on_ (nB c462) (mv_ ?_)
     exact by (
     refine on_ (nB c462) (mv_ ?_)
     refine on_ (nB c462) (v_ (Run.binB rfl rfl rfl (bin_neqB underlying4)) ?_)
     refine v_ (Run.pickF rfl rfl (nB c462) rfl) ?_
     refine dn_ hK458 ?_
     clear hK458
     rcases eti_ H with ⟨c463, H⟩ | ⟨c463, H⟩
     · refine wy_ (qT c463) (sr_ fun _ hK486 => ?_)
       refine ad_ hK486 ?_
       exact by (
       clear hK486
       obtain rfl := os H
       exact rt1 Try.f12 rfl rfl hR_ ⟨rfl, HS.b⟩ )
     refine wn_ (qF c463) (WC.skip (via_ hK457 (sr_ fun _ hK464 => ?_)))
     clear hK457
     refine ad_ hK464 ?_
     clear hK464
     refine sr_ fun _ hK465 => ?_
     exact by (
     refine v_ (ls_ (HS.mu 21 rfl) underlying58 part_all) ?_
     refine mv_ ?_
     refine ci_ (args := [.agg #[(.slice A198 t184.1.f0.length c199), (.slice A200 t184.1.f1.length c201)], vi 1]) func70 ?_
     refine cw_ (n := 18) func70 fun _ hR466 => ?_
     refine sr_ fun _ hK467 => ?_
     refine bo_ HS (fun b468 w469 hb468 HS => ?_)
     refine ad_ hK467 ?_
     clear hK467
     exact by (
     refine sr_ fun _ hK470 => ?_
     refine v_ (fa_ underlying58) ?_
     refine v_ (lb_ (HS.mu 0 rfl) underlying22 rfl) ?_
     refine mv_ ?_
     refine c_ func32 (laws_heldIntS.leaf A198 t184.1.f0.length c199 1 Lv294 _ (HS.leafK 11 rfl) (HS.leafT 11 rfl) q296 (by rw [hL295]; exact q297) (1 + ((n22 t184.1.f0) : Int)) (by rw [hL295]; rfl)) ?_
     rintro _ w471 ⟨rfl, hm_⟩
     replace HS := HS.below hm_
     refine ⟨_, rfl, ?_⟩
     exact by (
     clear hm_
     have hn472 : ¬ (1 + ((n22 t184.1.f0) : Int)) < 0 := by omega
     refine ad_ hK470 ?_
     clear hK470
     refine WC.seq fun _ hK473 => ?_
     refine sr_ fun _ hK474 => ?_
     refine mv_ ?_
     refine b_ bin_lss ?_
     exact by (
     refine dn_ hK474 (wn_ (dF hn472) (WC.skip (via_ hK473 (sr_ fun _ hK475 => ?_))))
     clear hK474 hK473
     refine v_ (fa_ underlying58) ?_
     refine v_ (lb_ (HS.mu 0 rfl) underlying56 rfl) ?_
     refine mv_ ?_
     refine c_ func131 (laws_heldCellSS.leaf A200 t184.1.f1.length c201 (1 + ((n22 t184.1.f0) : Int)) Lv301 _ (HS.leafK 10 rfl) (HS.leafT 10 rfl) q303 (by rw [hL302]; exact q304) ((1 + ((n22 t184.1.f0) : Int)) + ((n56 t184.1.f1) : Int)) (by rw [hL302]; rfl)) ?_
     rintro _ w476 ⟨rfl, hm_⟩
     replace HS := HS.below hm_
     exact by (
     refine ⟨_, rfl, ?_⟩
     clear hm_
     have hn477 : ¬ ((1 + ((n22 t184.1.f0) : Int)) + ((n56 t184.1.f1) : Int)) < 0 := by omega
     refine ad_ hK475 ?_
     clear hK475
     refine WC.seq fun _ hK478 => ?_
     refine sr_ fun _ hK479 => ?_
     refine mv_ ?_
     exact by (
     refine b_ bin_lss ?_
     refine dn_ hK479 (wn_ (dF hn477) (WC.skip (via_ hK478 (sr_ fun _ hK480 => ?_))))
     clear hK479 hK478
     refine mv_ ?_
     refine ad_ hK480 ?_
     clear hK480
     refine WC.ret ?_
     refine fin1 Try.f70 rfl rfl hR466 ⟨_, rfl, ?_⟩
     exact by (
     refine ad_ hK465 ?_
     clear hK465
     refine WC.seq fun _ hK481 => ?_
     refine sr_ fun _ hK482 => ?_
     refine mv_ ?_
     refine b_ bin_lss ?_
     refine dn_ hK482 (wn_ (dF hn477) (WC.skip (via_ hK481 (WC.seq fun _ hK483 => ?_))))
     clear hK482 hK481
     exact by (
     refine sr_ fun _ hK484 => ?_
     refine mv_ ?_
     refine mv_ ?_
     refine b_ bin_neq ?_
     refine dn_ hK484 (wn_ (qF rfl) (WC.skip (via_ hK483 (sr_ fun _ hK485 => ?_))))
     clear hK484 hK483
     refine ad_ hK485 ?_
     clear hK485
     obtain rfl := os H
     exact rt1 Try.f12 rfl rfl hR_ ⟨rfl, HS.b⟩ )))))))))))
   exact by (
   refine two__ 1 8 ?_ ?_
   · have HT_ := True.intro
     obtain ⟨t332, ha333, H⟩ := bind_some H
     refine dco_ 1 (w_none rfl) func60 (laws_toStore.runs k (⟨x0.f0, x0.f1⟩ : S84) A0_0 c0_0 A0_1 c0_1 t332 _ (HS.getO 0 rfl) hc0_0 (HS.getO 1 rfl) hc0_1 ha333) ?_
     clear ha333
     rintro _ w334 ⟨v335, bl336, v337, bl338, rfl, hO_, hb⟩
     replace HS := HS.got hb hO_
     dsimp only [List.cons_append, List.nil_append] at HS
     exact by (
     clear hO_
     obtain ⟨I339, bl340, HS⟩ := HS.unseal (sz := 1) rfl
     replace HS := HS.freezeN 1 (p := (rF kI t332.f0 I339)) rfl (fun _ hP_ _ => RepsB.reps hP_)
     dsimp only [List.eraseIdx] at HS
     replace HS := HS.front 1 rfl
     dsimp only [List.eraseIdx] at HS
     obtain ⟨I341, bl342, HS⟩ := HS.unseal (sz := 1) rfl
     refine ⟨⟨HS.nowO, HS.nowN.2, ⟨(HS.mu 27 rfl), (HS.mu 28 rfl), trivial⟩⟩, _, rfl, ?_⟩
     exact by (
     clear hb
     refine two__ 3 8 ?_ ?_
     · have HT_ := True.intro
       obtain ⟨t343, ha344, H⟩ := bind_some H
       refine dco_ 3 (w_none rfl) func61 (laws_toTable.runs k (⟨x1.f0, x1.f1⟩ : S85) A1_0 c1_0 t343 _ (HS.getO 2 rfl) hc1_0 ha344) ?_
       clear ha344
       rintro _ w345 ⟨v346, bl347, rfl, hO_, hb⟩
       replace HS := HS.got hb hO_
       exact by (
       dsimp only [List.cons_append, List.nil_append] at HS
       clear hO_
       obtain ⟨I348, bl349, HS⟩ := HS.unseal (sz := 1) rfl
       replace HS := HS.freezeN 1 (p := (rF kI t343.f0 I348)) rfl (fun _ hP_ _ => RepsB.reps hP_)
       dsimp only [List.eraseIdx] at HS
       refine ⟨⟨HS.nowO, HS.nowN.2.2, ⟨(HS.mu 28 rfl), (HS.mu 29 rfl), trivial⟩⟩, _, rfl, ?_⟩
       clear hb
       refine two__ 4 8 ?_ ?_
       · have HT_ := True.intro
         exact by (
         obtain ⟨A350, c351, rfl⟩ := row_slice (HS.mu 3 rfl)
         obtain ⟨A352, c353, rfl⟩ := row_slice (HS.mu 1 rfl)
         obtain ⟨A354, c355, rfl⟩ := row_slice (HS.mu 0 rfl)
         obtain ⟨t356, ha357, H⟩ := bind_some H
         refine dco_ 4 (w_none rfl) func55 (impl_DropTable.runs k t332 A350 c351 A352 c353 t343 A354 c355 t356.1 t356.2 _ (row_C rfl (HS.mu 3 rfl) (HS.getN 1 rfl)) (row_le (HS.mu 3 rfl)) (row_C rfl (HS.mu 1 rfl) (HS.elsK 2 rfl)) (row_le (HS.mu 1 rfl)) (row_C rfl (HS.mu 0 rfl) (HS.getN 0 rfl)) (row_le (HS.mu 0 rfl)) ha357) ?_
         clear ha357
         rintro _ w358 ⟨v359, bl360, v361, bl362, rfl, hO_, hb⟩
         replace HS := HS.got hb hO_
         exact by (
         dsimp only [List.cons_append, List.nil_append] at HS
         clear hO_
         obtain ⟨I363, bl364, HS⟩ := HS.unseal (sz := 1) rfl
         replace HS := HS.freezeN 1 (p := (rF kI t356.1.f0 I363)) rfl (fun _ hP_ _ => RepsB.reps hP_)
         dsimp only [List.eraseIdx] at HS
         replace HS := HS.front 1 rfl
         dsimp only [List.eraseIdx] at HS
         obtain ⟨I365, bl366, HS⟩ := HS.unseal (sz := 1) rfl
         exact by (
         refine ⟨⟨HS.nowO, HS.nowN.2.2.2, ⟨(HS.mu 31 rfl), (HS.mu 32 rfl), trivial⟩⟩, _, rfl, ?_⟩
         clear hb
         refine dm_ 5 ?_
         refine dp_ 6 (fun _ => Run.extract rfl rfl rfl) ?_
         refine dp_ 7 (fun _ => Run.extract rfl rfl rfl) ?_
         refine WD.alloc (v := .agg #[sn, sn]) (cs := #[sn, sn]) 8 (w_none rfl) HS rfl (by kernel_rfl) rfl (fun b367 w368 hb367 HS => ?_)
         refine ⟨⟨HS.nowO, HS.nowN.2.2.2, ⟨(HS.mu 32 rfl), (HS.mu 33 rfl), trivial⟩⟩, ?_⟩
         exact useWD X331 ⟨b367, A350, t332, c351, A352, c353, A354, t343, c355, v359, v361, t356, I365, bl366, I363, I348, I341, bl342, I339, rfl, H, HS⟩ )))
       · have HT_ := True.intro
         exact by (
         refine WDo.alloc (v := .agg #[sn, sn]) (cs := #[sn, sn]) 8 (w_none rfl) HS rfl (by kernel_rfl) rfl (fun b369 w370 hb369 HS => ?_)
         refine ⟨⟨HS.nowO, HS.nowN.2.2, ⟨(HS.mu 29 rfl), (HS.mu 30 rfl), trivial⟩⟩, ?_⟩
         obtain ⟨A371, c372, rfl⟩ := row_slice (HS.mu 4 rfl)
         obtain ⟨A373, c374, rfl⟩ := row_slice (HS.mu 2 rfl)
         obtain ⟨A375, c376, rfl⟩ := row_slice (HS.mu 1 rfl)
         obtain ⟨t377, ha378, H⟩ := bind_some H
         refine dc_ 4 (w_none rfl) func55 (impl_DropTable.runs k t332 A371 c372 A373 c374 t343 A375 c376 t377.1 t377.2 _ (row_C rfl (HS.mu 4 rfl) (HS.getN 1 rfl)) (row_le (HS.mu 4 rfl)) (row_C rfl (HS.mu 2 rfl) (HS.elsK 3 rfl)) (row_le (HS.mu 2 rfl)) (row_C rfl (HS.mu 1 rfl) (HS.getN 0 rfl)) (row_le (HS.mu 1 rfl)) ha378) ?_
         clear ha378
         exact by (
         rintro _ w379 ⟨v380, bl381, v382, bl383, rfl, hO_, hb⟩
         replace HS := HS.got hb hO_
         dsimp only [List.cons_append, List.nil_append] at HS
         clear hO_
         obtain ⟨I384, bl385, HS⟩ := HS.unseal (sz := 1) rfl
         replace HS := HS.freezeN 1 (p := (rF kI t377.1.f0 I384)) rfl (fun _ hP_ _ => RepsB.reps hP_)
         dsimp only [List.eraseIdx] at HS
         replace HS := HS.front 1 rfl
         exact by (
         dsimp only [List.eraseIdx] at HS
         obtain ⟨I386, bl387, HS⟩ := HS.unseal (sz := 1) rfl
         refine ⟨⟨HS.nowO, HS.nowN.2.2.2, ⟨(HS.mu 32 rfl), (HS.mu 33 rfl), trivial⟩⟩, _, rfl, ?_⟩
         clear hb
         refine dm_ 5 ?_
         refine dp_ 6 (fun _ => Run.extract rfl rfl rfl) ?_
         refine dp_ 7 (fun _ => Run.extract rfl rfl rfl) ?_
         exact useWD X331 ⟨b369, A371, t332, c372, A373, c374, A375, t343, c376, v380, v382, t377, I386, bl387, I384, I348, I341, bl342, I339, rfl, H, (St.sel HS [3, 0, 1, 2, 4, 5, 6, 7, 8, 9, 10, 11, 12, 13, 14, 15, 16, 17, 18, 19, 20, 21, 22, 23, 24, 25, 26, 27, 28, 29, 30, 31, 32, 33])⟩ ))))
     · have HT_ := True.intro
       exact by (
       refine WDo.alloc (v := .agg #[sn, sn]) (cs := #[sn, sn]) 8 (w_none rfl) HS rfl (by kernel_rfl) rfl (fun b388 w389 hb388 HS => ?_)
       refine ⟨⟨HS.nowO, HS.nowN.2, ⟨(HS.mu 28 rfl), (HS.mu 29 rfl), trivial⟩⟩, ?_⟩
       obtain ⟨t390, ha391, H⟩ := bind_some H
       refine dc_ 3 (w_none rfl) func61 (laws_toTable.runs k (⟨x1.f0, x1.f1⟩ : S85) A1_0 c1_0 t390 _ (HS.getO 2 rfl) hc1_0 ha391) ?_
       clear ha391
       rintro _ w392 ⟨v393, bl394, rfl, hO_, hb⟩
       replace HS := HS.got hb hO_
       dsimp only [List.cons_append, List.nil_append] at HS
       exact by (
       clear hO_
       obtain ⟨I395, bl396, HS⟩ := HS.unseal (sz := 1) rfl
       replace HS := HS.freezeN 1 (p := (rF kI t390.f0 I395)) rfl (fun _ hP_ _ => RepsB.reps hP_)
       dsimp only [List.eraseIdx] at HS
       refine ⟨⟨HS.nowO, HS.nowN.2.2, ⟨(HS.mu 29 rfl), (HS.mu 30 rfl), trivial⟩⟩, _, rfl, ?_⟩
       clear hb
       obtain ⟨A397, c398, rfl⟩ := row_slice (HS.mu 4 rfl)
       obtain ⟨A399, c400, rfl⟩ := row_slice (HS.mu 2 rfl)
       exact by (
       obtain ⟨A401, c402, rfl⟩ := row_slice (HS.mu 0 rfl)
       obtain ⟨t403, ha404, H⟩ := bind_some H
       refine dc_ 4 (w_none rfl) func55 (impl_DropTable.runs k t332 A397 c398 A399 c400 t390 A401 c402 t403.1 t403.2 _ (row_C rfl (HS.mu 4 rfl) (HS.getN 1 rfl)) (row_le (HS.mu 4 rfl)) (row_C rfl (HS.mu 2 rfl) (HS.elsK 3 rfl)) (row_le (HS.mu 2 rfl)) (row_C rfl (HS.mu 0 rfl) (HS.getN 0 rfl)) (row_le (HS.mu 0 rfl)) ha404) ?_
       clear ha404
       rintro _ w405 ⟨v406, bl407, v408, bl409, rfl, hO_, hb⟩
       replace HS := HS.got hb hO_
       dsimp only [List.cons_append, List.nil_append] at HS
       clear hO_
       exact by (
       obtain ⟨I410, bl411, HS⟩ := HS.unseal (sz := 1) rfl
       replace HS := HS.freezeN 1 (p := (rF kI t403.1.f0 I410)) rfl (fun _ hP_ _ => RepsB.reps hP_)
       dsimp only [List.eraseIdx] at HS
       replace HS := HS.front 1 rfl
       dsimp only [List.eraseIdx] at HS
       obtain ⟨I412, bl413, HS⟩ := HS.unseal (sz := 1) rfl
       refine ⟨⟨HS.nowO, HS.nowN.2.2.2, ⟨(HS.mu 32 rfl), (HS.mu 33 rfl), trivial⟩⟩, _, rfl, ?_⟩
       clear hb
       exact by (
       refine dm_ 5 ?_
       refine dp_ 6 (fun _ => Run.extract rfl rfl rfl) ?_
       refine dp_ 7 (fun _ => Run.extract rfl rfl rfl) ?_
       exact useWD X331 ⟨b388, A397, t332, c398, A399, c400, A401, t390, c402, v406, v408, t403, I412, bl413, I410, I395, I341, bl342, I339, rfl, H, (St.sel HS [4, 0, 1, 2, 3, 5, 6, 7, 8, 9, 10, 11, 12, 13, 14, 15, 16, 17, 18, 19, 20, 21, 22, 23, 24, 25, 26, 27, 28, 29, 30, 31, 32, 33])⟩ )))))))
   · have HT_ := True.intro
     refine WDo.alloc (v := .agg #[sn, sn]) (cs := #[sn, sn]) 8 (w_none rfl) HS rfl (by kernel_rfl) rfl (fun b414 w415 hb414 HS => ?_)
     refine ⟨⟨HS.nowO, HS.nowN, ⟨(HS.mu 25 rfl), (HS.mu 26 rfl), trivial⟩⟩, ?_⟩
     obtain ⟨t416, ha417, H⟩ := bind_some H
     exact by (
     refine dc_ 1 (w_none rfl) func60 (laws_toStore.runs k (⟨x0.f0, x0.f1⟩ : S84) A0_0 c0_0 A0_1 c0_1 t416 _ (HS.getO 0 rfl) hc0_0 (HS.getO 1 rfl) hc0_1 ha417) ?_
     clear ha417
     rintro _ w418 ⟨v419, bl420, v421, bl422, rfl, hO_, hb⟩
     replace HS := HS.got hb hO_
     dsimp only [List.cons_append, List.nil_append] at HS
     clear hO_
     obtain ⟨I423, bl424, HS⟩ := HS.unseal (sz := 1) rfl
     replace HS := HS.freezeN 1 (p := (rF kI t416.f0 I423)) rfl (fun _ hP_ _ => RepsB.reps hP_)
     exact by (
     dsimp only [List.eraseIdx] at HS
     replace HS := HS.front 1 rfl
     dsimp only [List.eraseIdx] at HS
     obtain ⟨I425, bl426, HS⟩ := HS.unseal (sz := 1) rfl
     refine ⟨⟨HS.nowO, HS.nowN.2, ⟨(HS.mu 28 rfl), (HS.mu 29 rfl), trivial⟩⟩, _, rfl, ?_⟩
     clear hb
     obtain ⟨t427, ha428, H⟩ := bind_some H
     refine dc_ 3 (w_none rfl) func61 (laws_toTable.runs k (⟨x1.f0, x1.f1⟩ : S85) A1_0 c1_0 t427 _ (HS.getO 2 rfl) hc1_0 ha428) ?_
     exact by (
     clear ha428
     rintro _ w429 ⟨v430, bl431, rfl, hO_, hb⟩
     replace HS := HS.got hb hO_
     dsimp only [List.cons_append, List.nil_append] at HS
     clear hO_
     obtain ⟨I432, bl433, HS⟩ := HS.unseal (sz := 1) rfl
     replace HS := HS.freezeN 1 (p := (rF kI t427.f0 I432)) rfl (fun _ hP_ _ => RepsB.reps hP_)
     dsimp only [List.eraseIdx] at HS
     exact by (
     refine ⟨⟨HS.nowO, HS.nowN.2.2, ⟨(HS.mu 29 rfl), (HS.mu 30 rfl), trivial⟩⟩, _, rfl, ?_⟩
     clear hb
     obtain ⟨A434, c435, rfl⟩ := row_slice (HS.mu 3 rfl)
     obtain ⟨A436, c437, rfl⟩ := row_slice (HS.mu 1 rfl)
     obtain ⟨A438, c439, rfl⟩ := row_slice (HS.mu 0 rfl)
     obtain ⟨t440, ha441, H⟩ := bind_some H
     refine dc_ 4 (w_none rfl) func55 (impl_DropTable.runs k t416 A434 c435 A436 c437 t427 A438 c439 t440.1 t440.2 _ (row_C rfl (HS.mu 3 rfl) (HS.getN 1 rfl)) (row_le (HS.mu 3 rfl)) (row_C rfl (HS.mu 1 rfl) (HS.elsK 2 rfl)) (row_le (HS.mu 1 rfl)) (row_C rfl (HS.mu 0 rfl) (HS.getN 0 rfl)) (row_le (HS.mu 0 rfl)) ha441) ?_
     clear ha441
     exact by (
     rintro _ w442 ⟨v443, bl444, v445, bl446, rfl, hO_, hb⟩
     replace HS := HS.got hb hO_
     dsimp only [List.cons_append, List.nil_append] at HS
     clear hO_
     obtain ⟨I447, bl448, HS⟩ := HS.unseal (sz := 1) rfl
     replace HS := HS.freezeN 1 (p := (rF kI t440.1.f0 I447)) rfl (fun _ hP_ _ => RepsB.reps hP_)
     dsimp only [List.eraseIdx] at HS
     replace HS := HS.front 1 rfl
     exact by (
     dsimp only [List.eraseIdx] at HS
     obtain ⟨I449, bl450, HS⟩ := HS.unseal (sz := 1) rfl
     refine ⟨⟨HS.nowO, HS.nowN.2.2.2, ⟨(HS.mu 32 rfl), (HS.mu 33 rfl), trivial⟩⟩, _, rfl, ?_⟩
     clear hb
     refine dm_ 5 ?_
     refine dp_ 6 (fun _ => Run.extract rfl rfl rfl) ?_
     refine dp_ 7 (fun _ => Run.extract rfl rfl rfl) ?_
     exact useWD X331 ⟨b414, A434, t416, c435, A436, c437, A438, t427, c439, v443, v445, t440, I449, bl450, I447, I432, I425, bl426, I423, rfl, H, (St.sel HS [7, 0, 1, 2, 3, 4, 5, 6, 8, 9, 10, 11, 12, 13, 14, 15, 16, 17, 18, 19, 20, 21, 22, 23, 24, 25, 26, 27, 28, 29, 30, 31, 32, 33])⟩ )))))))))))))))))))))))))))))))))))))))))))))))))))))))))))
 exact by (
 refine two__ 1 8 ?_ ?_
 · have HT_ := True.intro
   obtain ⟨t26, ha27, H⟩ := bind_some H
   refine dco_ 1 (w_none rfl) func60 (laws_toStore.runs k (⟨x0.f0, x0.f1⟩ : S84) A0_0 c0_0 A0_1 c0_1 t26 _ (HS.getO 0 rfl) hc0_0 (HS.getO 1 rfl) hc0_1 ha27) ?_
   clear ha27
   rintro _ w28 ⟨v29, bl30, v31, bl32, rfl, hO_, hb⟩
   replace HS := HS.got hb hO_
   dsimp only [List.cons_append, List.nil_append] at HS
   exact by (
   clear hO_
   obtain ⟨I33, bl34, HS⟩ := HS.unseal (sz := 1) rfl
   replace HS := HS.freezeN 1 (p := (rF kI t26.f0 I33)) rfl (fun _ hP_ _ => RepsB.reps hP_)
   dsimp only [List.eraseIdx] at HS
   replace HS := HS.front 1 rfl
   dsimp only [List.eraseIdx] at HS
   obtain ⟨I35, bl36, HS⟩ := HS.unseal (sz := 1) rfl
   refine ⟨⟨HS.nowO, HS.nowN.2, ⟨(HS.mu 3 rfl), (HS.mu 4 rfl), trivial⟩⟩, _, rfl, ?_⟩
   exact by (
   clear hb
   refine two__ 3 8 ?_ ?_
   · have HT_ := True.intro
     obtain ⟨t37, ha38, H⟩ := bind_some H
     refine dco_ 3 (w_none rfl) func61 (laws_toTable.runs k (⟨x1.f0, x1.f1⟩ : S85) A1_0 c1_0 t37 _ (HS.getO 2 rfl) hc1_0 ha38) ?_
     clear ha38
     rintro _ w39 ⟨v40, bl41, rfl, hO_, hb⟩
     replace HS := HS.got hb hO_
     exact by (
     dsimp only [List.cons_append, List.nil_append] at HS
     clear hO_
     obtain ⟨I42, bl43, HS⟩ := HS.unseal (sz := 1) rfl
     replace HS := HS.freezeN 1 (p := (rF kI t37.f0 I42)) rfl (fun _ hP_ _ => RepsB.reps hP_)
     dsimp only [List.eraseIdx] at HS
     refine ⟨⟨HS.nowO, HS.nowN.2.2, ⟨(HS.mu 4 rfl), (HS.mu 5 rfl), trivial⟩⟩, _, rfl, ?_⟩
     clear hb
     refine two__ 4 8 ?_ ?_
     · have HT_ := True.intro
       exact by (
       obtain ⟨A44, c45, rfl⟩ := row_slice (HS.mu 3 rfl)
       obtain ⟨A46, c47, rfl⟩ := row_slice (HS.mu 1 rfl)
       obtain ⟨A48, c49, rfl⟩ := row_slice (HS.mu 0 rfl)
       obtain ⟨t50, ha51, H⟩ := bind_some H
       refine dco_ 4 (w_none rfl) func69 (spec_DropTable.runs k t26 A44 c45 A46 c47 t37 A48 c49 t50.1 t50.2 _ (row_C rfl (HS.mu 3 rfl) (HS.getN 1 rfl)) (row_le (HS.mu 3 rfl)) (row_C rfl (HS.mu 1 rfl) (HS.elsK 2 rfl)) (row_le (HS.mu 1 rfl)) (row_C rfl (HS.mu 0 rfl) (HS.getN 0 rfl)) (row_le (HS.mu 0 rfl)) ha51) ?_
       clear ha51
       rintro _ w52 ⟨v53, bl54, v55, bl56, rfl, hO_, hb⟩
       replace HS := HS.got hb hO_
       exact by (
       dsimp only [List.cons_append, List.nil_append] at HS
       clear hO_
       obtain ⟨I57, bl58, HS⟩ := HS.unseal (sz := 1) rfl
       replace HS := HS.freezeN 1 (p := (rF kI t50.1.f0 I57)) rfl (fun _ hP_ _ => RepsB.reps hP_)
       dsimp only [List.eraseIdx] at HS
       replace HS := HS.front 1 rfl
       dsimp only [List.eraseIdx] at HS
       obtain ⟨I59, bl60, HS⟩ := HS.unseal (sz := 1) rfl
       exact by (
       refine ⟨⟨HS.nowO, HS.nowN.2.2.2, ⟨(HS.mu 7 rfl), (HS.mu 8 rfl), trivial⟩⟩, _, rfl, ?_⟩
       clear hb
       refine dm_ 5 ?_
       refine dp_ 6 (fun _ => Run.extract rfl rfl rfl) ?_
       refine dp_ 7 (fun _ => Run.extract rfl rfl rfl) ?_
       refine WD.alloc (v := .agg #[sn, sn]) (cs := #[sn, sn]) 8 (w_none rfl) HS rfl (by kernel_rfl) rfl (fun b61 w62 hb61 HS => ?_)
       refine ⟨⟨HS.nowO, HS.nowN.2.2.2, ⟨(HS.mu 8 rfl), (HS.mu 9 rfl), trivial⟩⟩, ?_⟩
       exact useWD X25 ⟨b61, A44, t26, c45, A46, c47, A48, t37, c49, v53, v55, t50, I59, bl60, I57, I42, I35, bl36, I33, rfl, H, HS⟩ )))
     · have HT_ := True.intro
       exact by (
       refine WDo.alloc (v := .agg #[sn, sn]) (cs := #[sn, sn]) 8 (w_none rfl) HS rfl (by kernel_rfl) rfl (fun b63 w64 hb63 HS => ?_)
       refine ⟨⟨HS.nowO, HS.nowN.2.2, ⟨(HS.mu 5 rfl), (HS.mu 6 rfl), trivial⟩⟩, ?_⟩
       obtain ⟨A65, c66, rfl⟩ := row_slice (HS.mu 4 rfl)
       obtain ⟨A67, c68, rfl⟩ := row_slice (HS.mu 2 rfl)
       obtain ⟨A69, c70, rfl⟩ := row_slice (HS.mu 1 rfl)
       obtain ⟨t71, ha72, H⟩ := bind_some H
       refine dc_ 4 (w_none rfl) func69 (spec_DropTable.runs k t26 A65 c66 A67 c68 t37 A69 c70 t71.1 t71.2 _ (row_C rfl (HS.mu 4 rfl) (HS.getN 1 rfl)) (row_le (HS.mu 4 rfl)) (row_C rfl (HS.mu 2 rfl) (HS.elsK 3 rfl)) (row_le (HS.mu 2 rfl)) (row_C rfl (HS.mu 1 rfl) (HS.getN 0 rfl)) (row_le (HS.mu 1 rfl)) ha72) ?_
       clear ha72
       exact by (
       rintro _ w73 ⟨v74, bl75, v76, bl77, rfl, hO_, hb⟩
       replace HS := HS.got hb hO_
       dsimp only [List.cons_append, List.nil_append] at HS
       clear hO_
       obtain ⟨I78, bl79, HS⟩ := HS.unseal (sz := 1) rfl
       replace HS := HS.freezeN 1 (p := (rF kI t71.1.f0 I78)) rfl (fun _ hP_ _ => RepsB.reps hP_)
       dsimp only [List.eraseIdx] at HS
       replace HS := HS.front 1 rfl
       exact by (
       dsimp only [List.eraseIdx] at HS
       obtain ⟨I80, bl81, HS⟩ := HS.unseal (sz := 1) rfl
       refine ⟨⟨HS.nowO, HS.nowN.2.2.2, ⟨(HS.mu 8 rfl), (HS.mu 9 rfl), trivial⟩⟩, _, rfl, ?_⟩
       clear hb
       refine dm_ 5 ?_
       refine dp_ 6 (fun _ => Run.extract rfl rfl rfl) ?_
       refine dp_ 7 (fun _ => Run.extract rfl rfl rfl) ?_
       exact useWD X25 ⟨b63, A65, t26, c66, A67, c68, A69, t37, c70, v74, v76, t71, I80, bl81, I78, I42, I35, bl36, I33, rfl, H, (St.sel HS [3, 0, 1, 2, 4, 5, 6, 7, 8, 9])⟩ ))))
   · have HT_ := True.intro
     exact by (
     refine WDo.alloc (v := .agg #[sn, sn]) (cs := #[sn, sn]) 8 (w_none rfl) HS rfl (by kernel_rfl) rfl (fun b82 w83 hb82 HS => ?_)
     refine ⟨⟨HS.nowO, HS.nowN.2, ⟨(HS.mu 4 rfl), (HS.mu 5 rfl), trivial⟩⟩, ?_⟩
     obtain ⟨t84, ha85, H⟩ := bind_some H
     refine dc_ 3 (w_none rfl) func61 (laws_toTable.runs k (⟨x1.f0, x1.f1⟩ : S85) A1_0 c1_0 t84 _ (HS.getO 2 rfl) hc1_0 ha85) ?_
     clear ha85
     rintro _ w86 ⟨v87, bl88, rfl, hO_, hb⟩
     replace HS := HS.got hb hO_
     dsimp only [List.cons_append, List.nil_append] at HS
     exact by (
     clear hO_
     obtain ⟨I89, bl90, HS⟩ := HS.unseal (sz := 1) rfl
     replace HS := HS.freezeN 1 (p := (rF kI t84.f0 I89)) rfl (fun _ hP_ _ => RepsB.reps hP_)
     dsimp only [List.eraseIdx] at HS
     refine ⟨⟨HS.nowO, HS.nowN.2.2, ⟨(HS.mu 5 rfl), (HS.mu 6 rfl), trivial⟩⟩, _, rfl, ?_⟩
     clear hb
     obtain ⟨A91, c92, rfl⟩ := row_slice (HS.mu 4 rfl)
     obtain ⟨A93, c94, rfl⟩ := row_slice (HS.mu 2 rfl)
     exact by (
     obtain ⟨A95, c96, rfl⟩ := row_slice (HS.mu 0 rfl)
     obtain ⟨t97, ha98, H⟩ := bind_some H
     refine dc_ 4 (w_none rfl) func69 (spec_DropTable.runs k t26 A91 c92 A93 c94 t84 A95 c96 t97.1 t97.2 _ (row_C rfl (HS.mu 4 rfl) (HS.getN 1 rfl)) (row_le (HS.mu 4 rfl)) (row_C rfl (HS.mu 2 rfl) (HS.elsK 3 rfl)) (row_le (HS.mu 2 rfl)) (row_C rfl (HS.mu 0 rfl) (HS.getN 0 rfl)) (row_le (HS.mu 0 rfl)) ha98) ?_
     clear ha98
     rintro _ w99 ⟨v100, bl101, v102, bl103, rfl, hO_, hb⟩
     replace HS := HS.got hb hO_
     dsimp only [List.cons_append, List.nil_append] at HS
     clear hO_
     exact by (
     obtain ⟨I104, bl105, HS⟩ := HS.unseal (sz := 1) rfl
     replace HS := HS.freezeN 1 (p := (rF kI t97.1.f0 I104)) rfl (fun _ hP_ _ => RepsB.reps hP_)
     dsimp only [List.eraseIdx] at HS
     replace HS := HS.front 1 rfl
     dsimp only [List.eraseIdx] at HS
     obtain ⟨I106, bl107, HS⟩ := HS.unseal (sz := 1) rfl
     refine ⟨⟨HS.nowO, HS.nowN.2.2.2, ⟨(HS.mu 8 rfl), (HS.mu 9 rfl), trivial⟩⟩, _, rfl, ?_⟩
     clear hb
     exact by (
     refine dm_ 5 ?_
     refine dp_ 6 (fun _ => Run.extract rfl rfl rfl) ?_
     refine dp_ 7 (fun _ => Run.extract rfl rfl rfl) ?_
     exact useWD X25 ⟨b82, A91, t26, c92, A93, c94, A95, t84, c96, v100, v102, t97, I106, bl107, I104, I89, I35, bl36, I33, rfl, H, (St.sel HS [4, 0, 1, 2, 3, 5, 6, 7, 8, 9])⟩ )))))))
 · have HT_ := True.intro
   refine WDo.alloc (v := .agg #[sn, sn]) (cs := #[sn, sn]) 8 (w_none rfl) HS rfl (by kernel_rfl) rfl (fun b108 w109 hb108 HS => ?_)
   refine ⟨⟨HS.nowO, HS.nowN, ⟨(HS.mu 1 rfl), (HS.mu 2 rfl), trivial⟩⟩, ?_⟩
   obtain ⟨t110, ha111, H⟩ := bind_some H
   exact by (
   refine dc_ 1 (w_none rfl) func60 (laws_toStore.runs k (⟨x0.f0, x0.f1⟩ : S84) A0_0 c0_0 A0_1 c0_1 t110 _ (HS.getO 0 rfl) hc0_0 (HS.getO 1 rfl) hc0_1 ha111) ?_
   clear ha111
   rintro _ w112 ⟨v113, bl114, v115, bl116, rfl, hO_, hb⟩
   replace HS := HS.got hb hO_
   dsimp only [List.cons_append, List.nil_append] at HS
   clear hO_
   obtain ⟨I117, bl118, HS⟩ := HS.unseal (sz := 1) rfl
   replace HS := HS.freezeN 1 (p := (rF kI t110.f0 I117)) rfl (fun _ hP_ _ => RepsB.reps hP_)
   exact by (
   dsimp only [List.eraseIdx] at HS
   replace HS := HS.front 1 rfl
   dsimp only [List.eraseIdx] at HS
   obtain ⟨I119, bl120, HS⟩ := HS.unseal (sz := 1) rfl
   refine ⟨⟨HS.nowO, HS.nowN.2, ⟨(HS.mu 4 rfl), (HS.mu 5 rfl), trivial⟩⟩, _, rfl, ?_⟩
   clear hb
   obtain ⟨t121, ha122, H⟩ := bind_some H
   refine dc_ 3 (w_none rfl) func61 (laws_toTable.runs k (⟨x1.f0, x1.f1⟩ : S85) A1_0 c1_0 t121 _ (HS.getO 2 rfl) hc1_0 ha122) ?_
   exact by (
   clear ha122
   rintro _ w123 ⟨v124, bl125, rfl, hO_, hb⟩
   replace HS := HS.got hb hO_
   dsimp only [List.cons_append, List.nil_append] at HS
   clear hO_
   obtain ⟨I126, bl127, HS⟩ := HS.unseal (sz := 1) rfl
   replace HS := HS.freezeN 1 (p := (rF kI t121.f0 I126)) rfl (fun _ hP_ _ => RepsB.reps hP_)
   dsimp only [List.eraseIdx] at HS
   exact by (
   refine ⟨⟨HS.nowO, HS.nowN.2.2, ⟨(HS.mu 5 rfl), (HS.mu 6 rfl), trivial⟩⟩, _, rfl, ?_⟩
   clear hb
   obtain ⟨A128, c129, rfl⟩ := row_slice (HS.mu 3 rfl)
   obtain ⟨A130, c131, rfl⟩ := row_slice (HS.mu 1 rfl)
   obtain ⟨A132, c133, rfl⟩ := row_slice (HS.mu 0 rfl)
   obtain ⟨t134, ha135, H⟩ := bind_some H
   refine dc_ 4 (w_none rfl) func69 (spec_DropTable.runs k t110 A128 c129 A130 c131 t121 A132 c133 t134.1 t134.2 _ (row_C rfl (HS.mu 3 rfl) (HS.getN 1 rfl)) (row_le (HS.mu 3 rfl)) (row_C rfl (HS.mu 1 rfl) (HS.elsK 2 rfl)) (row_le (HS.mu 1 rfl)) (row_C rfl (HS.mu 0 rfl) (HS.getN 0 rfl)) (row_le (HS.mu 0 rfl)) ha135) ?_
   clear ha135
   exact by (
   rintro _ w136 ⟨v137, bl138, v139, bl140, rfl, hO_, hb⟩
   replace HS := HS.got hb hO_
   dsimp only [List.cons_append, List.nil_append] at HS
   clear hO_
   obtain ⟨I141, bl142, HS⟩ := HS.unseal (sz := 1) rfl
   replace HS := HS.freezeN 1 (p := (rF kI t134.1.f0 I141)) rfl (fun _ hP_ _ => RepsB.reps hP_)
   dsimp only [List.eraseIdx] at HS
   replace HS := HS.front 1 rfl
   exact by (
   dsimp only [List.eraseIdx] at HS
   obtain ⟨I143, bl144, HS⟩ := HS.unseal (sz := 1) rfl
   refine ⟨⟨HS.nowO, HS.nowN.2.2.2, ⟨(HS.mu 8 rfl), (HS.mu 9 rfl), trivial⟩⟩, _, rfl, ?_⟩
   clear hb
   refine dm_ 5 ?_
   refine dp_ 6 (fun _ => Run.extract rfl rfl rfl) ?_
   refine dp_ 7 (fun _ => Run.extract rfl rfl rfl) ?_
   exact useWD X25 ⟨b108, A128, t110, c129, A130, c131, A132, t121, c133, v137, v139, t134, I143, bl144, I141, I126, I119, bl120, I117, rfl, H, (St.sel HS [7, 0, 1, 2, 3, 4, 5, 6, 8, 9])⟩ )))))))))))))
def okT3 (x : Int) : Prop := (Lit.int .i64 x).wf = true
theorem opensT3 : XOpen.Opens prog 3 kI okT3 := XOpen.opens_int underlying3
def okT22 (xs : List Int) : Prop := xs.length ≤ 9223372036854775807 ∧ ∀ x ∈ xs, okT3 x
theorem opensT22 : XOpen.Opens prog 22 kS3 okT22 := XOpen.opens_slice underlying22 (by kernel_rfl) opensT3
def okT164 (x : S164) : Prop := okT3 x.f0 ∧ okT22 x.f1
theorem opensT164 : XOpen.Opens prog 164 k164 okT164 := by
 intro H enc w base held fuel cs x h
 obtain ⟨xs, n, _, _, hl, hlen, hf⟩ := DataW.trod_struct underlying164 h
 obtain ⟨a0, p0⟩ := XOpen.part_field hlen hf 0 rfl (by kernel_rfl) opensT3
 obtain ⟨a1, p1⟩ := XOpen.part_field hlen hf 1 rfl (by kernel_rfl) opensT22
 obtain ⟨hk, hg⟩ := XOpen.part_all (XOpen.part_pair p0 p1 rfl) (hl.trans (by kernel_rfl))
 exact ⟨⟨a0, a1⟩, hk, hg⟩
def okT160 (xs : List S164) : Prop := xs.length ≤ 9223372036854775807 ∧ ∀ x ∈ xs, okT164 x
theorem opensT160 : XOpen.Opens prog 160 kS164 okT160 := XOpen.opens_slice underlying160 (by kernel_rfl) opensT164
def okT96 (xs : List (List S164)) : Prop := xs.length ≤ 9223372036854775807 ∧ ∀ x ∈ xs, okT160 x
theorem opensT96 : XOpen.Opens prog 96 kS160 okT96 := XOpen.opens_slice underlying96 (by kernel_rfl) opensT160
def okT98 (x : S98) : Prop := okT96 x.f0 ∧ okT96 x.f1
theorem opensT98 : XOpen.Opens prog 98 k98 okT98 := by
 intro H enc w base held fuel cs x h
 obtain ⟨xs, n, _, _, hl, hlen, hf⟩ := DataW.trod_struct underlying98 h
 obtain ⟨a0, p0⟩ := XOpen.part_field hlen hf 0 rfl (by kernel_rfl) opensT96
 obtain ⟨a1, p1⟩ := XOpen.part_field hlen hf 1 rfl (by kernel_rfl) opensT96
 obtain ⟨hk, hg⟩ := XOpen.part_all (XOpen.part_pair p0 p1 rfl) (hl.trans (by kernel_rfl))
 exact ⟨⟨a0, a1⟩, hk, hg⟩
def okT156 (xs : List S98) : Prop := xs.length ≤ 9223372036854775807 ∧ ∀ x ∈ xs, okT98 x
theorem opensT156 : XOpen.Opens prog 156 kS98 okT156 := XOpen.opens_slice underlying156 (by kernel_rfl) opensT98
def okT82 (xs : List (List S98)) : Prop := xs.length ≤ 9223372036854775807 ∧ ∀ x ∈ xs, okT156 x
theorem opensT82 : XOpen.Opens prog 82 kS156 okT82 := XOpen.opens_slice underlying82 (by kernel_rfl) opensT156
def okT84 (x : S84) : Prop := okT22 x.f0 ∧ okT82 x.f1
theorem opensT84 : XOpen.Opens prog 84 k84 okT84 := by
 intro H enc w base held fuel cs x h
 obtain ⟨xs, n, _, _, hl, hlen, hf⟩ := DataW.trod_struct underlying84 h
 obtain ⟨a0, p0⟩ := XOpen.part_field hlen hf 0 rfl (by kernel_rfl) opensT22
 obtain ⟨a1, p1⟩ := XOpen.part_field hlen hf 1 rfl (by kernel_rfl) opensT82
 obtain ⟨hk, hg⟩ := XOpen.part_all (XOpen.part_pair p0 p1 rfl) (hl.trans (by kernel_rfl))
 exact ⟨⟨a0, a1⟩, hk, hg⟩
def okT85 (x : S85) : Prop := okT22 x.f0 ∧ okT3 x.f1
theorem opensT85 : XOpen.Opens prog 85 k85 okT85 := by
 intro H enc w base held fuel cs x h
 obtain ⟨xs, n, _, _, hl, hlen, hf⟩ := DataW.trod_struct underlying85 h
 obtain ⟨a0, p0⟩ := XOpen.part_field hlen hf 0 rfl (by kernel_rfl) opensT22
 obtain ⟨a1, p1⟩ := XOpen.part_field hlen hf 1 rfl (by kernel_rfl) opensT3
 obtain ⟨hk, hg⟩ := XOpen.part_all (XOpen.part_pair p0 p1 rfl) (hl.trans (by kernel_rfl))
 exact ⟨⟨a0, a1⟩, hk, hg⟩
def laws_FnExactDropTable.Pure : Prop := ∀ (x0 : S84) (x1 : S85), okT84 x0 → okT85 x1 → ∃ k, laws_FnExactDropTable.g k x0 x1 = some true
end Go.Proofs.Ytlpginalgdbopaa.PFnExactDropTable
