/- Functions that the statement reaches, as Lean functions, and the proof that a call of each comes to just its answer; written by this claim's own program. No conditions. -/
import Derived.Test.YtlpginalgdbopaaGFnBlocks3
namespace Go.Proofs.Ytlpginalgdbopaa.PFnBlocks
open Try
open Go.RowKit Go.Proofs.YtlpginalgdbopaaW.PrintWords Go.Proofs.YtlpginalgdbopaaW.PrintLast Go.Proofs.YtlpginalgdbopaaW.PrintMore Go.Proofs.Ytlpginalgdbopaa.XW Go.Proofs.Ytlpginalgdbopaa.XOp Go.Proofs.Ytlpginalgdbopaa.XSt Go.Proofs.Ytlpginalgdbopaa.XDraw
set_option linter.unusedVariables false
set_option linter.unusedSimpArgs false
set_option maxHeartbeats 4000000
set_option maxRecDepth 20000
def laws_FnBlocks.b0 (t10 : S58 × (List S67) × S62) (t40 : (List Int)) (t63 : S58 × S67 × Bool) (rec_ : Int → Option (Bool ⊕ Int)) (k414 : Nat) (i407 : Int) : Option (Bool ⊕ Int) := (if i407 < (t10.2.1.length : Int) then (if i407 = (Int.tmod (t40.getD (0 : Int).toNat 0) (t10.2.1.length : Int)) then (rec_ (wrap64 (i407 + 1))) else (if 0 ≤ i407 ∧ i407 < (t10.2.1.length : Int) then ((spec_CellsOf.g k414 (⟨t10.1.f0, t10.1.f1⟩ : S58) (t10.2.1.getD i407.toNat o67)).bind fun t432 => ((impl_CellsOf.g k414 (⟨t63.1.f0, t63.1.f1⟩ : S58) (t10.2.1.getD i407.toNat o67)).bind fun t441 => (if t432.2 = true then (if t441.2 = true then ((laws_sameCells.g k414 t432.1 t441.1).bind fun t453 => (if t453 = true then (rec_ (wrap64 (i407 + 1))) else (some (Sum.inl false)))) else (some (Sum.inl false))) else (some (Sum.inl false))))) else none)) else (some (Sum.inr i407)))
def laws_FnBlocks.l0 (t10 : S58 × (List S67) × S62) (t40 : (List Int)) (t63 : S58 × S67 × Bool) : Nat → Int → Option (Bool ⊕ Int)
 | 0, _ => none
 | k + 1, i407 => laws_FnBlocks.b0 t10 t40 t63 (laws_FnBlocks.l0 t10 t40 t63 k) k i407
def laws_FnBlocks.g (k : Nat) (l0 : List Int) : Option Bool := ((laws_big.g k l0).bind fun t4 => (if t4 = true then (some true) else ((spec_DrawRightStore.g k l0).bind fun t10 => ((spec_DrawPlaces.g k l0).bind fun t40 => (if (0 : Int) ≤ 0 ∧ 0 < (t40.length : Int) then (if (t10.2.1.length : Int) ≠ 0 then (if 0 ≤ (Int.tmod (t40.getD (0 : Int).toNat 0) (t10.2.1.length : Int)) ∧ (Int.tmod (t40.getD (0 : Int).toNat 0) (t10.2.1.length : Int)) < (t10.2.1.length : Int) then ((impl_AddCell.g k (⟨t10.1.f0, t10.1.f1⟩ : S58) (t10.2.1.getD (Int.tmod (t40.getD (0 : Int).toNat 0) (t10.2.1.length : Int)).toNat o67) (⟨t10.2.2.f0, t10.2.2.f1⟩ : S62)).bind fun t63 => ((spec_AddCell.g k (⟨t10.1.f0, t10.1.f1⟩ : S58) (t10.2.1.getD (Int.tmod (t40.getD (0 : Int).toNat 0) (t10.2.1.length : Int)).toNat o67) (⟨t10.2.2.f0, t10.2.2.f1⟩ : S62)).bind fun t216 => (if t63.2.2 = t216.2.2 then ((impl_StoreOk.g k (⟨t10.1.f0, t10.1.f1⟩ : S58)).bind fun t327 => (if t327 = true then (if t63.2.2 = true then ((spec_CellsOf.g k (⟨t10.1.f0, t10.1.f1⟩ : S58) (t10.2.1.getD (Int.tmod (t40.getD (0 : Int).toNat 0) (t10.2.1.length : Int)).toNat o67)).bind fun t342 => ((impl_CellsOf.g k (⟨t63.1.f0, t63.1.f1⟩ : S58) (⟨t63.2.1.f0, t63.2.1.f1⟩ : S67)).bind fun t350 => (if t350.2 = true then (if (t350.1.length : Int) = (wrap64 ((t342.1.length : Int) + 1)) then (if 0 ≤ (t342.1.length : Int) ∧ (t342.1.length : Int) ≤ (t350.1.length : Int) then ((laws_sameCells.g k (t350.1.take (t342.1.length : Int).toNat) t342.1).bind fun t372 => (if t372 = true then (if 0 ≤ (t342.1.length : Int) ∧ (t342.1.length : Int) < (t350.1.length : Int) then ((laws_sameCell.g k (t350.1.getD (t342.1.length : Int).toNat o62) (⟨t10.2.2.f0, t10.2.2.f1⟩ : S62)).bind fun t389 => (if t389 = true then ((spec_TableOk.g k (⟨t63.1.f0, t63.1.f1⟩ : S58) (⟨t63.2.1.f0, t63.2.1.f1⟩ : S67)).bind fun t393 => (if t393 = true then ((impl_NeedPages.f t63.2.1.f1).bind fun t397 => (if (t63.2.1.f0.length : Int) = t397 then ((laws_FnBlocks.l0 t10 t40 t63 k 0).bind (fun oc412 => match oc412 with | .inl r_ => some r_ | .inr i407 => (some true))) else (some false))) else (some false))) else (some false))) else none) else (some false))) else none) else (some false)) else (some false)))) else (some (t63.2.1.f1 == 0))) else (some false))) else (some false)))) else none) else none) else none)))))
theorem laws_FnBlocks.runs (k : Nat) (A0 : Option Addr) (c0 : Nat) (l0 : List Int) (r : Bool) (w : World) (hr0 : kU.C w A0 l0.length l0) (hc0 : l0.length ≤ c0) (H : laws_FnBlocks.g k l0 = some r) :
   Calls prog 9 #[.slice A0 l0.length c0] w fun e w' => e = .returned (.bool r) ∧ Below w.heap.size w w' := by
 unfold laws_FnBlocks.g at H
 have HS : St (fun _ => True) w w [] [(cF kU A0 l0)] [] := St.start (foot_cons (foot_C (Kd.heap_int _) hr0) foot_nil)
 refine cw_ (n := 170) func9 fun R_ hR_ => ?_
 refine sr_ fun _ hK1 => ?_
 refine ad_ hK1 ?_
 clear hK1
 refine WC.seq fun _ hK2 => ?_
 refine sr_ fun _ hK3 => ?_
 exact by (
 refine mv_ ?_
 obtain ⟨t4, ha5, H⟩ := bind_some H
 refine cs_ HS func37 (laws_big.runs k A0 c0 l0 t4 _ (HS.getO 0 rfl) hc0 ha5) (fun w6 HS => ?_)
 clear ha5
 refine dn_ hK3 ?_
 clear hK3
 rcases ite_ H with ⟨c7, H⟩ | ⟨c7, H⟩
 · refine wy_ c7 ?_
   exact by (
   refine sr_ fun _ hK8 => ?_
   refine ad_ hK8 ?_
   clear hK8
   obtain rfl := os H
   exact rt1 Try.f9 rfl rfl hR_ ⟨rfl, HS.b⟩ )
 refine wn_ (bF c7) (WC.skip (via_ hK2 (sr_ fun _ hK9 => ?_)))
 clear hK2
 refine mv_ ?_
 exact by (
 obtain ⟨t10, ha11, H⟩ := bind_some H
 refine c_ func43 (spec_DrawRightStore.runs k A0 c0 l0 t10.1 t10.2.1 t10.2.2 _ (HS.getO 0 rfl) hc0 ha11) ?_
 clear ha11
 rintro _ w12 ⟨A13, c14, A17, c18, A21, c22, A25, c26, A29, c30, rfl, le15, hf16, le19, hf20, le23, hf24, le27, hf28, le31, hf32, hb⟩
 replace HS := HS.newNs hb (foot_cons hf16 (foot_cons hf20 (foot_cons hf24 (foot_cons hf28 (foot_cons hf32 foot_nil)))))
 refine ⟨_, rfl, ?_⟩
 clear hb
 refine mv_ ?_
 exact by (
 refine v_ (Run.extract rfl rfl rfl) ?_
 refine v_ (Run.extract rfl rfl rfl) ?_
 refine v_ (Run.extract rfl rfl rfl) ?_
 refine WL.alloc HS (v := .agg #[sn, sn]) (cs := #[sn, sn]) rfl rfl (by decide) rfl (by kernel_rfl) rfl (fun b33 w34 hb33 HS => ?_)
 refine WL.alloc HS (v := .agg #[sn, sn]) (cs := #[sn, sn]) rfl rfl (by decide) rfl (by kernel_rfl) rfl (fun b35 w36 hb35 HS => ?_)
 refine WL.storeW HS 1 rfl rfl rfl rfl rfl rfl (oneL rfl) (by kernel_rfl) rfl (fun w37 HS => ?_)
 dsimp only [List.set] at HS
 refine as_ ?_
 exact by (
 refine WL.storeW HS 0 rfl rfl rfl rfl rfl rfl (oneL rfl) (by kernel_rfl) rfl (fun w38 HS => ?_)
 dsimp only [List.set] at HS
 refine dn_ hK9 (sr_ fun _ hK39 => ?_)
 clear hK9
 refine mv_ ?_
 obtain ⟨t40, ha41, H⟩ := bind_some H
 refine c_ func44 (spec_DrawPlaces.runs k A0 c0 l0 t40 _ (HS.getO 0 rfl) hc0 ha41) ?_
 clear ha41
 exact by (
 rintro _ w42 ⟨A43, c44, rfl, le45, hf46, hb⟩
 replace HS := HS.newNs hb (foot_cons hf46 foot_nil)
 refine ⟨_, rfl, ?_⟩
 clear hb
 obtain ⟨⟨q47, q48⟩, H⟩ := if_some H
 obtain ⟨ad49, rfl⟩ := C_open (HS.getN 0 rfl) (lenpos q47 q48)
 refine v_ (ia_ underlying22 1 q47 q48) ?_
 refine v_ (Run.load rfl rfl underlying3 rfl (int_cell (HS.getN 0 rfl) 0 q47 q48)) ?_
 exact by (
 refine mv_ ?_
 refine ln_ underlying59 ?_
 obtain ⟨z50, H⟩ := if_some H
 refine b_ (bin_rem z50) ?_
 refine ad_ hK39 ?_
 clear hK39
 refine WC.seq fun K51 hK51 => ?_
 obtain ⟨⟨q52, q53⟩, H⟩ := if_some H
 exact by (
 obtain ⟨ad54, rfl⟩ := C_open (HS.getN 3 rfl) (lenpos q52 q53)
 obtain ⟨e55, el56, HS⟩ := HS.elN 3 rfl (by decide) o67 (Int.tmod (t40.getD (0 : Int).toNat 0) (t10.2.1.length : Int)) q52 q53
 refine WC.drawW HS [boxM b35 #[.slice A25 t10.2.2.f0.length c26, .slice A29 t10.2.2.f1.length c30] 62, boxM b33 #[.slice A13 t10.1.f0.length c14, .slice A17 t10.1.f1.length c18] 58] (fun _ HS => ⟨(HS.mu 0 rfl), (HS.mu 1 rfl), trivial⟩) [] rfl rfl (fun w57 HS => ?_)
 refine dm_ 1 ?_
 refine dm_ 2 ?_
 refine di_ 3 underlying59 2 q52 q53 ?_
 refine dt_ 0 ⟨HS.nowO, HS.nowN, ⟨(HS.mu 0 rfl), (HS.mu 1 rfl), trivial⟩⟩ (fun w_ hw_ => Run.loadS (cs := [.slice A13 t10.1.f0.length c14, .slice A17 t10.1.f1.length c18]) rfl rfl underlying58 rfl (by kernel_rfl) (box_part hw_.2.2.2.1 part_all)) ?_
 obtain ⟨A58, c59, hc60, le61, HS⟩ := HS.eN 0 rfl at67_0
 exact by (
 refine dt_ 4 ⟨HS.nowO, HS.nowN.2, ⟨(HS.mu 0 rfl), (HS.mu 1 rfl), trivial⟩⟩ (fun w_ hw_ => Run.loadS (cs := [.slice A58 ((t10.2.1.getD (Int.tmod (t40.getD (0 : Int).toNat 0) (t10.2.1.length : Int)).toNat o67).f0.length) c59, vi ((t10.2.1.getD (Int.tmod (t40.getD (0 : Int).toNat 0) (t10.2.1.length : Int)).toNat o67).f1)]) rfl rfl underlying67 rfl (by kernel_rfl) (cells_part (AllF.get 0 rfl hw_.2.1).2 (part_cons hc60 (part_cons (at67_1 (AtK.whole (AllF.get 0 rfl hw_.2.1).1)).int part_nil)))) ?_
 refine dt_ 5 ⟨HS.nowO, HS.nowN.2, ⟨(HS.mu 0 rfl), (HS.mu 1 rfl), trivial⟩⟩ (fun w_ hw_ => Run.loadS (cs := [.slice A25 t10.2.2.f0.length c26, .slice A29 t10.2.2.f1.length c30]) rfl rfl underlying62 rfl (by kernel_rfl) (box_part hw_.2.2.1 part_all)) ?_
 have X62 : ∀ E_ W_, (∃ (b78 : Nat) (b80 : Nat) (t63 : S58 × S67 × Bool) (A83 : Option Addr) (c84 : Nat) (A85 : Option Addr) (c86 : Nat) (A88 : Option Addr) (c89 : Nat) (I76 : List Value) (I74 : List Value) (I72 : List Value), E_ = [(0, .slice A0 l0.length c0), (2, .bool false), (3, .pointer (some ⟨b33, 0, none⟩)), (4, .slice (some ad54) t10.2.1.length c22), (5, .pointer (some ⟨b35, 0, none⟩)), (6, vi (Int.tmod (t40.getD (0 : Int).toNat 0) (t10.2.1.length : Int))), (7, .pointer (some ⟨b78, 0, none⟩)), (8, .pointer (some ⟨b80, 0, none⟩)), (9, .bool t63.2.2), (22, .slice A0 l0.length c0), (23, .bool t4), (25, .slice A0 l0.length c0), (27, .agg #[.slice A13 t10.1.f0.length c14, .slice A17 t10.1.f1.length c18]), (28, .slice (some ad54) t10.2.1.length c22), (29, .agg #[.slice A25 t10.2.2.f0.length c26, .slice A29 t10.2.2.f1.length c30]), (30, .slice A0 l0.length c0), (31, .slice (some ad49) t40.length c44), (33, vi (t40.getD (0 : Int).toNat 0)), (34, .slice (some ad54) t10.2.1.length c22), (35, vi (t10.2.1.length : Int)), (36, vi (Int.tmod (t40.getD (0 : Int).toNat 0) (t10.2.1.length : Int))), (38, .agg #[.slice A13 t10.1.f0.length c14, .slice A17 t10.1.f1.length c18]), (39, .slice (some ad54) t10.2.1.length c22), (40, vi (Int.tmod (t40.getD (0 : Int).toNat 0) (t10.2.1.length : Int))), (42, .agg #[.slice A58 ((t10.2.1.getD (Int.tmod (t40.getD (0 : Int).toNat 0) (t10.2.1.length : Int)).toNat o67).f0.length) c59, vi ((t10.2.1.getD (Int.tmod (t40.getD (0 : Int).toNat 0) (t10.2.1.length : Int)).toNat o67).f1)]), (43, .agg #[.slice A25 t10.2.2.f0.length c26, .slice A29 t10.2.2.f1.length c30]), (45, .agg #[(.slice A83 t63.1.f0.length c84), (.slice A85 t63.1.f1.length c86)]), (46, .agg #[(.slice A88 t63.2.1.f0.length c89), vi t63.2.1.f1]), (47, .bool t63.2.2)] ∧ ((spec_AddCell.g k (⟨t10.1.f0, t10.1.f1⟩ : S58) (t10.2.1.getD (Int.tmod (t40.getD (0 : Int).toNat 0) (t10.2.1.length : Int)).toNat o67) (⟨t10.2.2.f0, t10.2.2.f1⟩ : S62)).bind fun t216 => (if t63.2.2 = t216.2.2 then ((impl_StoreOk.g k (⟨t10.1.f0, t10.1.f1⟩ : S58)).bind fun t327 => (if t327 = true then (if t63.2.2 = true then ((spec_CellsOf.g k (⟨t10.1.f0, t10.1.f1⟩ : S58) (t10.2.1.getD (Int.tmod (t40.getD (0 : Int).toNat 0) (t10.2.1.length : Int)).toNat o67)).bind fun t342 => ((impl_CellsOf.g k (⟨t63.1.f0, t63.1.f1⟩ : S58) (⟨t63.2.1.f0, t63.2.1.f1⟩ : S67)).bind fun t350 => (if t350.2 = true then (if (t350.1.length : Int) = (wrap64 ((t342.1.length : Int) + 1)) then (if 0 ≤ (t342.1.length : Int) ∧ (t342.1.length : Int) ≤ (t350.1.length : Int) then ((laws_sameCells.g k (t350.1.take (t342.1.length : Int).toNat) t342.1).bind fun t372 => (if t372 = true then (if 0 ≤ (t342.1.length : Int) ∧ (t342.1.length : Int) < (t350.1.length : Int) then ((laws_sameCell.g k (t350.1.getD (t342.1.length : Int).toNat o62) (⟨t10.2.2.f0, t10.2.2.f1⟩ : S62)).bind fun t389 => (if t389 = true then ((spec_TableOk.g k (⟨t63.1.f0, t63.1.f1⟩ : S58) (⟨t63.2.1.f0, t63.2.1.f1⟩ : S67)).bind fun t393 => (if t393 = true then ((impl_NeedPages.f t63.2.1.f1).bind fun t397 => (if (t63.2.1.f0.length : Int) = t397 then ((laws_FnBlocks.l0 t10 t40 t63 k 0).bind (fun oc412 => match oc412 with | .inl r_ => some r_ | .inr i407 => (some true))) else (some false))) else (some false))) else (some false))) else none) else (some false))) else none) else (some false)) else (some false)))) else (some (t63.2.1.f1 == 0))) else (some false))) else (some false))) = some r ∧ St (fun _ => True) w W_ [boxM b80 #[(.slice A88 t63.2.1.f0.length c89), vi t63.2.1.f1] 67, boxM b78 #[(.slice A83 t63.1.f0.length c84), (.slice A85 t63.1.f1.length c86)] 58, rowM w.heap.size 3 1 (.slice A88 t63.2.1.f0.length c89) t63.2.1.f0.length I76, rowM w.heap.size 71 1 (.slice A85 t63.1.f1.length c86) t63.1.f1.length I74, rowM w.heap.size 3 1 (.slice A83 t63.1.f0.length c84) t63.1.f0.length I72, boxM b35 #[.slice A25 t10.2.2.f0.length c26, .slice A29 t10.2.2.f1.length c30] 62, boxM b33 #[.slice A13 t10.1.f0.length c14, .slice A17 t10.1.f1.length c18] 58] [(cF kU A0 l0)] [(rF kI t63.2.1.f0 I76), (rF kS62 t63.1.f1 I74), (rF kI t63.1.f0 I72), (cF kI A58 (t10.2.1.getD (Int.tmod (t40.getD (0 : Int).toNat 0) (t10.2.1.length : Int)).toNat o67).f0), (fun W => k67.K W (t10.2.1.getD (Int.tmod (t40.getD (0 : Int).toNat 0) (t10.2.1.length : Int)).toNat o67) e55 ∧ ∀ i u, e55[i]? = some u → W.cell? ((ad54.add ((Int.tmod (t40.getD (0 : Int).toNat 0) (t10.2.1.length : Int)).toNat * k67.sz)).add i) = some u), (cF kI (some ad49) t40), (cF kI A13 t10.1.f0), (cF kS62 A17 t10.1.f1), (cF k67 (some ad54) t10.2.1), (cF kS149 A25 t10.2.2.f0), (cF kS149 A29 t10.2.2.f1)]) → ∀ a, Fits a 170 E_ → K51 a W_ := by
   rintro E_ w206 ⟨b78, b80, t63, A83, c84, A85, c86, A88, c89, I76, I74, I72, rfl, H, HS⟩
   refine hK51 _ _ ?_
   clear hK51
   refine WC.seq fun K207 hK207 => ?_
   obtain ⟨e208, el209, HS⟩ := HS.elN 8 rfl (by decide) o67 (Int.tmod (t40.getD (0 : Int).toNat 0) (t10.2.1.length : Int)) q52 q53
   exact by (
   refine WC.drawW HS [boxM b80 #[(.slice A88 t63.2.1.f0.length c89), vi t63.2.1.f1] 67, boxM b78 #[(.slice A83 t63.1.f0.length c84), (.slice A85 t63.1.f1.length c86)] 58, boxM b35 #[.slice A25 t10.2.2.f0.length c26, .slice A29 t10.2.2.f1.length c30] 62, boxM b33 #[.slice A13 t10.1.f0.length c14, .slice A17 t10.1.f1.length c18] 58] (fun _ HS => ⟨(HS.mu 0 rfl), (HS.mu 1 rfl), (HS.mu 5 rfl), (HS.mu 6 rfl), trivial⟩) [] rfl rfl (fun w210 HS => ?_)
   refine dm_ 1 ?_
   refine dm_ 2 ?_
   refine di_ 3 underlying59 2 q52 q53 ?_
   refine dt_ 0 ⟨HS.nowO, HS.nowN, ⟨(HS.mu 0 rfl), (HS.mu 1 rfl), (HS.mu 5 rfl), (HS.mu 6 rfl), trivial⟩⟩ (fun w_ hw_ => Run.loadS (cs := [.slice A13 t10.1.f0.length c14, .slice A17 t10.1.f1.length c18]) rfl rfl underlying58 rfl (by kernel_rfl) (box_part hw_.2.2.2.2.2.1 part_all)) ?_
   obtain ⟨A211, c212, hc213, le214, HS⟩ := HS.eN 0 rfl at67_0
   refine dt_ 4 ⟨HS.nowO, HS.nowN.2, ⟨(HS.mu 0 rfl), (HS.mu 1 rfl), (HS.mu 5 rfl), (HS.mu 6 rfl), trivial⟩⟩ (fun w_ hw_ => Run.loadS (cs := [.slice A211 ((t10.2.1.getD (Int.tmod (t40.getD (0 : Int).toNat 0) (t10.2.1.length : Int)).toNat o67).f0.length) c212, vi ((t10.2.1.getD (Int.tmod (t40.getD (0 : Int).toNat 0) (t10.2.1.length : Int)).toNat o67).f1)]) rfl rfl underlying67 rfl (by kernel_rfl) (cells_part (AllF.get 0 rfl hw_.2.1).2 (part_cons hc213 (part_cons (at67_1 (AtK.whole (AllF.get 0 rfl hw_.2.1).1)).int part_nil)))) ?_
   refine dt_ 5 ⟨HS.nowO, HS.nowN.2, ⟨(HS.mu 0 rfl), (HS.mu 1 rfl), (HS.mu 5 rfl), (HS.mu 6 rfl), trivial⟩⟩ (fun w_ hw_ => Run.loadS (cs := [.slice A25 t10.2.2.f0.length c26, .slice A29 t10.2.2.f1.length c30]) rfl rfl underlying62 rfl (by kernel_rfl) (box_part hw_.2.2.2.2.1 part_all)) ?_
   exact by (
   have X215 : ∀ E_ W_, (∃ (b231 : Nat) (b233 : Nat) (t216 : S58 × S67 × Bool) (A219 : Option Addr) (c220 : Nat) (A223 : Option Addr) (c224 : Nat) (A227 : Option Addr) (c228 : Nat), E_ = [(0, .slice A0 l0.length c0), (2, .bool false), (3, .pointer (some ⟨b33, 0, none⟩)), (4, .slice (some ad54) t10.2.1.length c22), (5, .pointer (some ⟨b35, 0, none⟩)), (6, vi (Int.tmod (t40.getD (0 : Int).toNat 0) (t10.2.1.length : Int))), (7, .pointer (some ⟨b78, 0, none⟩)), (8, .pointer (some ⟨b80, 0, none⟩)), (9, .bool t63.2.2), (10, .pointer (some ⟨b231, 0, none⟩)), (11, .pointer (some ⟨b233, 0, none⟩)), (12, .bool t216.2.2), (22, .slice A0 l0.length c0), (23, .bool t4), (25, .slice A0 l0.length c0), (27, .agg #[.slice A13 t10.1.f0.length c14, .slice A17 t10.1.f1.length c18]), (28, .slice (some ad54) t10.2.1.length c22), (29, .agg #[.slice A25 t10.2.2.f0.length c26, .slice A29 t10.2.2.f1.length c30]), (30, .slice A0 l0.length c0), (31, .slice (some ad49) t40.length c44), (33, vi (t40.getD (0 : Int).toNat 0)), (34, .slice (some ad54) t10.2.1.length c22), (35, vi (t10.2.1.length : Int)), (36, vi (Int.tmod (t40.getD (0 : Int).toNat 0) (t10.2.1.length : Int))), (38, .agg #[.slice A13 t10.1.f0.length c14, .slice A17 t10.1.f1.length c18]), (39, .slice (some ad54) t10.2.1.length c22), (40, vi (Int.tmod (t40.getD (0 : Int).toNat 0) (t10.2.1.length : Int))), (42, .agg #[.slice A58 ((t10.2.1.getD (Int.tmod (t40.getD (0 : Int).toNat 0) (t10.2.1.length : Int)).toNat o67).f0.length) c59, vi ((t10.2.1.getD (Int.tmod (t40.getD (0 : Int).toNat 0) (t10.2.1.length : Int)).toNat o67).f1)]), (43, .agg #[.slice A25 t10.2.2.f0.length c26, .slice A29 t10.2.2.f1.length c30]), (45, .agg #[(.slice A83 t63.1.f0.length c84), (.slice A85 t63.1.f1.length c86)]), (46, .agg #[(.slice A88 t63.2.1.f0.length c89), vi t63.2.1.f1]), (47, .bool t63.2.2), (49, .agg #[.slice A13 t10.1.f0.length c14, .slice A17 t10.1.f1.length c18]), (50, .slice (some ad54) t10.2.1.length c22), (51, vi (Int.tmod (t40.getD (0 : Int).toNat 0) (t10.2.1.length : Int))), (53, .agg #[.slice A211 ((t10.2.1.getD (Int.tmod (t40.getD (0 : Int).toNat 0) (t10.2.1.length : Int)).toNat o67).f0.length) c212, vi ((t10.2.1.getD (Int.tmod (t40.getD (0 : Int).toNat 0) (t10.2.1.length : Int)).toNat o67).f1)]), (54, .agg #[.slice A25 t10.2.2.f0.length c26, .slice A29 t10.2.2.f1.length c30]), (56, .agg #[.slice A219 t216.1.f0.length c220, .slice A223 t216.1.f1.length c224]), (57, .agg #[.slice A227 t216.2.1.f0.length c228, vi t216.2.1.f1]), (58, .bool t216.2.2)] ∧ (if t63.2.2 = t216.2.2 then ((impl_StoreOk.g k (⟨t10.1.f0, t10.1.f1⟩ : S58)).bind fun t327 => (if t327 = true then (if t63.2.2 = true then ((spec_CellsOf.g k (⟨t10.1.f0, t10.1.f1⟩ : S58) (t10.2.1.getD (Int.tmod (t40.getD (0 : Int).toNat 0) (t10.2.1.length : Int)).toNat o67)).bind fun t342 => ((impl_CellsOf.g k (⟨t63.1.f0, t63.1.f1⟩ : S58) (⟨t63.2.1.f0, t63.2.1.f1⟩ : S67)).bind fun t350 => (if t350.2 = true then (if (t350.1.length : Int) = (wrap64 ((t342.1.length : Int) + 1)) then (if 0 ≤ (t342.1.length : Int) ∧ (t342.1.length : Int) ≤ (t350.1.length : Int) then ((laws_sameCells.g k (t350.1.take (t342.1.length : Int).toNat) t342.1).bind fun t372 => (if t372 = true then (if 0 ≤ (t342.1.length : Int) ∧ (t342.1.length : Int) < (t350.1.length : Int) then ((laws_sameCell.g k (t350.1.getD (t342.1.length : Int).toNat o62) (⟨t10.2.2.f0, t10.2.2.f1⟩ : S62)).bind fun t389 => (if t389 = true then ((spec_TableOk.g k (⟨t63.1.f0, t63.1.f1⟩ : S58) (⟨t63.2.1.f0, t63.2.1.f1⟩ : S67)).bind fun t393 => (if t393 = true then ((impl_NeedPages.f t63.2.1.f1).bind fun t397 => (if (t63.2.1.f0.length : Int) = t397 then ((laws_FnBlocks.l0 t10 t40 t63 k 0).bind (fun oc412 => match oc412 with | .inl r_ => some r_ | .inr i407 => (some true))) else (some false))) else (some false))) else (some false))) else none) else (some false))) else none) else (some false)) else (some false)))) else (some (t63.2.1.f1 == 0))) else (some false))) else (some false)) = some r ∧ t216.1.f0.length ≤ c220 ∧ t216.1.f1.length ≤ c224 ∧ t216.2.1.f0.length ≤ c228 ∧ St (fun _ => True) w W_ [boxM b233 #[.slice A227 t216.2.1.f0.length c228, vi t216.2.1.f1] 67, boxM b231 #[.slice A219 t216.1.f0.length c220, .slice A223 t216.1.f1.length c224] 58, boxM b80 #[(.slice A88 t63.2.1.f0.length c89), vi t63.2.1.f1] 67, boxM b78 #[(.slice A83 t63.1.f0.length c84), (.slice A85 t63.1.f1.length c86)] 58, rowM w.heap.size 3 1 (.slice A88 t63.2.1.f0.length c89) t63.2.1.f0.length I76, rowM w.heap.size 71 1 (.slice A85 t63.1.f1.length c86) t63.1.f1.length I74, rowM w.heap.size 3 1 (.slice A83 t63.1.f0.length c84) t63.1.f0.length I72, boxM b35 #[.slice A25 t10.2.2.f0.length c26, .slice A29 t10.2.2.f1.length c30] 62, boxM b33 #[.slice A13 t10.1.f0.length c14, .slice A17 t10.1.f1.length c18] 58] [(cF kU A0 l0)] [(cF kI A219 t216.1.f0), (cF kS62 A223 t216.1.f1), (cF kI A227 t216.2.1.f0), (cF kI A211 (t10.2.1.getD (Int.tmod (t40.getD (0 : Int).toNat 0) (t10.2.1.length : Int)).toNat o67).f0), (fun W => k67.K W (t10.2.1.getD (Int.tmod (t40.getD (0 : Int).toNat 0) (t10.2.1.length : Int)).toNat o67) e208 ∧ ∀ i u, e208[i]? = some u → W.cell? ((ad54.add ((Int.tmod (t40.getD (0 : Int).toNat 0) (t10.2.1.length : Int)).toNat * k67.sz)).add i) = some u), (rF kI t63.2.1.f0 I76), (rF kS62 t63.1.f1 I74), (rF kI t63.1.f0 I72), (cF kI A58 (t10.2.1.getD (Int.tmod (t40.getD (0 : Int).toNat 0) (t10.2.1.length : Int)).toNat o67).f0), (fun W => k67.K W (t10.2.1.getD (Int.tmod (t40.getD (0 : Int).toNat 0) (t10.2.1.length : Int)).toNat o67) e55 ∧ ∀ i u, e55[i]? = some u → W.cell? ((ad54.add ((Int.tmod (t40.getD (0 : Int).toNat 0) (t10.2.1.length : Int)).toNat * k67.sz)).add i) = some u), (cF kI (some ad49) t40), (cF kI A13 t10.1.f0), (cF kS62 A17 t10.1.f1), (cF k67 (some ad54) t10.2.1), (cF kS149 A25 t10.2.2.f0), (cF kS149 A29 t10.2.2.f1)]) → ∀ a, Fits a 170 E_ → K207 a W_ := by
     rintro E_ w323 ⟨b231, b233, t216, A219, c220, A223, c224, A227, c228, rfl, H, le221, le225, le229, HS⟩
     refine hK207 _ _ ?_
     clear hK207
     refine WC.seq fun _ hK324 => ?_
     refine sr_ fun _ hK325 => ?_
     refine mv_ ?_
     refine mv_ ?_
     exact by (
     refine v_ (Run.binB rfl rfl rfl (bin_neqB underlying4)) ?_
     refine mv_ ?_
     rcases eti_ H with ⟨c326, H⟩ | ⟨c326, H⟩
     · refine off_ (c' := true) (qT c326) ?_
       refine WL.know 62 (qT c326) ?_
       refine fast_ ?_
       refine via_ hK325 (wy_ rfl ?_)
       clear hK325
       exact by (
       refine sr_ fun _ hK468 => ?_
       refine ad_ hK468 ?_
       clear hK468
       obtain rfl := os H
       exact rt1 Try.f9 rfl rfl hR_ ⟨rfl, HS.b⟩ )
     refine on_ (qF c326) (v_ (ls_ (HS.mu 8 rfl) underlying58 part_all) ?_)
     refine on_ (qF c326) ?_
     obtain ⟨t327, ha328, H⟩ := bind_some H
     exact by (
     refine cs_ HS func47 (impl_StoreOk.runs k (⟨t10.1.f0, t10.1.f1⟩ : S58) A13 c14 A17 c18 t327 _ (HS.getN 11 rfl) le15 (HS.getN 12 rfl) le19 ha328) (fun w329 HS => ?_)
     clear ha328
     refine on_ (qF c326) (nt_ ?_)
     refine v_ (Run.pickF rfl rfl (qF c326) rfl) ?_
     refine dn_ hK325 ?_
     clear hK325
     rcases eti_ H with ⟨c330, H⟩ | ⟨c330, H⟩
     · refine wy_ (nB (bF c330)) (sr_ fun _ hK467 => ?_)
       exact by (
       refine ad_ hK467 ?_
       clear hK467
       obtain rfl := os H
       exact rt1 Try.f9 rfl rfl hR_ ⟨rfl, HS.b⟩ )
     refine wn_ (nB c330) (WC.skip (via_ hK324 (WC.seq fun _ hK331 => ?_)))
     clear hK324
     refine sr_ fun _ hK332 => ?_
     refine mv_ ?_
     exact by (
     refine nt_ ?_
     refine dn_ hK332 ?_
     clear hK332
     rcases eti_ H with ⟨c333, H⟩ | ⟨c333, H⟩
     · refine wy_ (nB (bF c333)) (sr_ fun _ hK466 => ?_)
       refine v_ (fa_ underlying67) ?_
       refine v_ (lb_ (HS.mu 2 rfl) underlying3 rfl) ?_
       refine b_ bin_eql ?_
       exact by (
       refine ad_ hK466 ?_
       clear hK466
       obtain rfl := os H
       exact rt1 Try.f9 rfl rfl hR_ ⟨rfl, HS.b⟩ )
     refine wn_ (nB c333) (WC.skip (via_ hK331 (WC.seq fun _ hK334 => ?_)))
     clear hK331
     refine WC.drawS HS [] rfl rfl (fun w335 HS => ?_)
     have HB := Below.refl w335.heap.size w335
     exact by (
     have HSW := HS
     refine dm_ 1 ?_
     refine dm_ 2 ?_
     refine di_ 3 underlying59 2 q52 q53 ?_
     refine dt_ 0 (Below.refl _ _) (fun w_ hw_ => Run.loadS (cs := [.slice A13 t10.1.f0.length c14, .slice A17 t10.1.f1.length c18]) rfl rfl underlying58 rfl (by kernel_rfl) (box_part ((HS.below hw_).mu 8 rfl) part_all)) ?_
     obtain ⟨e336, el337, HS⟩ := HS.elN 13 rfl (by decide) o67 (Int.tmod (t40.getD (0 : Int).toNat 0) (t10.2.1.length : Int)) q52 q53
     replace HSW := HS
     obtain ⟨A338, c339, hc340, le341, HS⟩ := HS.eN 0 rfl at67_0
     exact by (
     refine dt_ 4 (Below.refl _ _) (fun w_ hw_ => Run.loadS (cs := [.slice A338 ((t10.2.1.getD (Int.tmod (t40.getD (0 : Int).toNat 0) (t10.2.1.length : Int)).toNat o67).f0.length) c339, vi ((t10.2.1.getD (Int.tmod (t40.getD (0 : Int).toNat 0) (t10.2.1.length : Int)).toNat o67).f1)]) rfl rfl underlying67 rfl (by kernel_rfl) (cells_part ((HS.below hw_).getN 1 rfl).2 (part_cons hc340 (part_cons (at67_1 (AtK.whole ((HS.below hw_).getN 1 rfl).1)).int part_nil)))) ?_
     obtain ⟨t342, ha343, H⟩ := bind_some H
     refine dc_ 5 (w_none rfl) func48 (spec_CellsOf.runs k (⟨t10.1.f0, t10.1.f1⟩ : S58) A13 c14 A17 c18 (t10.2.1.getD (Int.tmod (t40.getD (0 : Int).toNat 0) (t10.2.1.length : Int)).toNat o67) A338 c339 t342.1 t342.2 _ (HS.getN 13 rfl) le15 (HS.getN 14 rfl) le19 (HS.getN 0 rfl) le341 ha343) ?_
     clear ha343
     rintro _ w344 ⟨A345, c346, rfl, le347, hf348, hb⟩
     replace HB := HB.trans (hb.mono HB.size)
     replace HS := HS.newNs hb (foot_cons hf348 foot_nil)
     refine ⟨HB, _, rfl, ?_⟩
     exact by (
     clear hb
     refine dm_ 6 ?_
     refine dp_ 7 (fun _ => Run.extract rfl rfl rfl) ?_
     refine dp_ 8 (fun _ => Run.extract rfl rfl rfl) ?_
     refine dp_ 9 (fun _ => Run.assign rfl rfl) ?_
     refine dp_ 10 (fun _ => Run.assign rfl rfl) ?_
     refine dd_ ?_
     clear HB HSW
     exact by (
     refine via_ hK334 (sr_ fun _ hK349 => ?_)
     clear hK334
     refine v_ (ls_ (HS.mu 3 rfl) underlying58 part_all) ?_
     refine v_ (ls_ (HS.mu 2 rfl) underlying67 part_all) ?_
     obtain ⟨t350, ha351, H⟩ := bind_some H
     refine c_ func49 (impl_CellsOf.runs k (⟨t63.1.f0, t63.1.f1⟩ : S58) A83 c84 A85 c86 (⟨t63.2.1.f0, t63.2.1.f1⟩ : S67) A88 c89 t350.1 t350.2 _ (row_C rfl (HS.mu 6 rfl) (HS.getN 10 rfl)) (row_le (HS.mu 6 rfl)) (row_C rfl (HS.mu 5 rfl) (HS.getN 9 rfl)) (row_le (HS.mu 5 rfl)) (row_C rfl (HS.mu 4 rfl) (HS.getN 8 rfl)) (row_le (HS.mu 4 rfl)) ha351) ?_
     clear ha351
     rintro _ w352 ⟨v353, bl354, rfl, hO_, hb⟩
     exact by (
     replace HS := HS.got hb hO_
     dsimp only [List.cons_append, List.nil_append] at HS
     clear hO_
     obtain ⟨I355, bl356, HS⟩ := HS.unseal (sz := 2) rfl
     replace HS := HS.freezeN 1 (p := (rF k62 t350.1 I355)) rfl (fun _ hP_ _ => RepsB.reps hP_)
     dsimp only [List.eraseIdx] at HS
     refine ⟨_, rfl, ?_⟩
     clear hb
     exact by (
     refine mv_ ?_
     refine v_ (Run.extract rfl rfl rfl) ?_
     refine v_ (Run.extract rfl rfl rfl) ?_
     refine as_ ?_
     refine ad_ hK349 ?_
     clear hK349
     refine WC.seq fun _ hK357 => ?_
     refine WC.seq fun _ hK358 => ?_
     exact by (
     obtain ⟨A359, c360, rfl⟩ := row_slice (HS.mu 0 rfl)
     have le361 := row_le (HS.mu 0 rfl)
     replace HS := HS.freezeN 0 (p := (cF k62 A359 (t350.1))) rfl (fun W_ hm_ h_ => row_C (by rfl) hm_ h_.1)
     dsimp only [List.eraseIdx] at HS
     refine WC.drawS HS [] rfl rfl (fun w362 HS => ?_)
     have HB := Below.refl w362.heap.size w362
     have HSW := HS
     refine dm_ 0 ?_
     exact by (
     refine dp_ 1 (fun _ => Run.not rfl rfl) ?_
     refine dm_ 2 ?_
     rcases eti_ H with ⟨c363, H⟩ | ⟨c363, H⟩
     · refine doTs_ 6 89 [3, 4, 5, 6, 7, 8] [90, 91, 92, 93, 94, 95] (nB (bF c363)) ?_
       refine dp_ 9 (fun _ => Run.pickT rfl rfl (nB (bF c363)) rfl) ?_
       refine dm_ 10 ?_
       refine doTs_ 7 97 [11, 12, 13, 14, 15, 16, 17] [98, 99, 100, 101, 102, 103, 104] rfl ?_
       refine dp_ 18 (fun _ => Run.pickT rfl rfl rfl rfl) ?_
       exact by (
       refine dm_ 19 ?_
       refine doTs_ 8 106 [20, 21, 22, 23, 24, 25, 26, 27] [107, 108, 109, 110, 111, 112, 113, 114] rfl ?_
       refine dp_ 28 (fun _ => Run.pickT rfl rfl rfl rfl) ?_
       refine dm_ 29 ?_
       refine doTs_ 4 116 [30, 31, 32, 33] [117, 118, 119, 120] rfl ?_
       refine dp_ 34 (fun _ => Run.pickT rfl rfl rfl rfl) ?_
       refine dm_ 35 ?_
       refine doTs_ 7 122 [36, 37, 38, 39, 40, 41, 42] [123, 124, 125, 126, 127, 128, 129] rfl ?_
       exact by (
       refine dp_ 43 (fun _ => Run.pickT rfl rfl rfl rfl) ?_
       refine dd_ ?_
       clear HB HSW
       refine via_ hK358 (wy_ rfl ?_)
       clear hK358
       refine sr_ fun _ hK465 => ?_
       refine ad_ hK465 ?_
       clear hK465
       obtain rfl := os H
       exact rt1 Try.f9 rfl rfl hR_ ⟨rfl, HS.b⟩ ))
     exact by (
     refine dg_ 3 (nB c363) (fun _ => Run.move rfl rfl) ?_
     refine dg_ 4 (nB c363) (fun _ => Run.len (ts := #[]) rfl underlying71 rfl) ?_
     refine dg_ 5 (nB c363) (fun _ => Run.move rfl rfl) ?_
     refine dg_ 6 (nB c363) (fun _ => Run.len (ts := #[]) rfl underlying71 rfl) ?_
     refine dg_ 7 (nB c363) (fun _ => Run.bin rfl rfl rfl bin_add64) ?_
     refine dg_ 8 (nB c363) (fun _ => Run.bin rfl rfl rfl bin_neq) ?_
     refine dp_ 9 (fun _ => Run.pickF rfl rfl (nB c363) rfl) ?_
     refine dm_ 10 ?_
     exact by (
     rcases eti_ H with ⟨c364, H⟩ | ⟨c364, H⟩
     · refine doTs_ 7 97 [11, 12, 13, 14, 15, 16, 17] [98, 99, 100, 101, 102, 103, 104] (qT c364) ?_
       refine dp_ 18 (fun _ => Run.pickT rfl rfl (qT c364) rfl) ?_
       refine dm_ 19 ?_
       refine doTs_ 8 106 [20, 21, 22, 23, 24, 25, 26, 27] [107, 108, 109, 110, 111, 112, 113, 114] rfl ?_
       refine dp_ 28 (fun _ => Run.pickT rfl rfl rfl rfl) ?_
       refine dm_ 29 ?_
       refine doTs_ 4 116 [30, 31, 32, 33] [117, 118, 119, 120] rfl ?_
       exact by (
       refine dp_ 34 (fun _ => Run.pickT rfl rfl rfl rfl) ?_
       refine dm_ 35 ?_
       refine doTs_ 7 122 [36, 37, 38, 39, 40, 41, 42] [123, 124, 125, 126, 127, 128, 129] rfl ?_
       refine dp_ 43 (fun _ => Run.pickT rfl rfl rfl rfl) ?_
       refine dd_ ?_
       clear HB HSW
       refine via_ hK358 (wy_ rfl ?_)
       clear hK358
       exact by (
       refine sr_ fun _ hK464 => ?_
       refine ad_ hK464 ?_
       clear hK464
       obtain rfl := os H
       exact rt1 Try.f9 rfl rfl hR_ ⟨rfl, HS.b⟩ ))
     refine dg_ 11 (qF c364) (fun _ => Run.move rfl rfl) ?_
     refine dg_ 12 (qF c364) (fun _ => Run.move rfl rfl) ?_
     refine dg_ 13 (qF c364) (fun _ => Run.len (ts := #[]) rfl underlying71 rfl) ?_
     exact by (
     obtain ⟨⟨q365, q366⟩, H⟩ := if_some H
     obtain ⟨A367, c368, he369, le370, hf371⟩ := slc_take k62 A359 c360 t350.1 (t342.1.length : Int) q365 q366 le361
     replace HS := HS.deriveN (p := (cF k62 A367 (t350.1.take (t342.1.length : Int).toNat))) (fun W_ hN_ => hf371 W_ hN_.1)
     refine dg_ 14 (qF c364) (fun _ => Run.eqv he369 (Run.slH rfl underlying71 (by kernel_rfl) rfl rfl q365 (Int.le_trans q366 (Int.ofNat_le.mpr le361)))) ?_
     refine dg_ 15 (qF c364) (fun _ => Run.move rfl rfl) ?_
     obtain ⟨t372, ha373, H⟩ := bind_some H
     refine dcs_ HS HB 16 (w_on rfl rfl rfl (qF c364)) func50 (laws_sameCells.runs k A367 c368 (t350.1.take (t342.1.length : Int).toNat) A345 c346 t342.1 t372 _ (HS.getN 0 rfl) le370 (HS.getN 3 rfl) le347 ha373) (fun w374 HS HB => ?_)
     clear ha373
     exact by (
     refine dg_ 17 (qF c364) (fun _ => Run.not rfl rfl) ?_
     refine dp_ 18 (fun _ => Run.pickF rfl rfl (qF c364) rfl) ?_
     refine dm_ 19 ?_
     rcases eti_ H with ⟨c375, H⟩ | ⟨c375, H⟩
     · refine doTs_ 8 106 [20, 21, 22, 23, 24, 25, 26, 27] [107, 108, 109, 110, 111, 112, 113, 114] (nB (bF c375)) ?_
       refine dp_ 28 (fun _ => Run.pickT rfl rfl (nB (bF c375)) rfl) ?_
       refine dm_ 29 ?_
       refine doTs_ 4 116 [30, 31, 32, 33] [117, 118, 119, 120] rfl ?_
       exact by (
       refine dp_ 34 (fun _ => Run.pickT rfl rfl rfl rfl) ?_
       refine dm_ 35 ?_
       refine doTs_ 7 122 [36, 37, 38, 39, 40, 41, 42] [123, 124, 125, 126, 127, 128, 129] rfl ?_
       refine dp_ 43 (fun _ => Run.pickT rfl rfl rfl rfl) ?_
       refine dd_ ?_
       clear HB HSW
       refine via_ hK358 (wy_ rfl ?_)
       clear hK358
       exact by (
       refine sr_ fun _ hK463 => ?_
       refine ad_ hK463 ?_
       clear hK463
       obtain rfl := os H
       exact rt1 Try.f9 rfl rfl hR_ ⟨rfl, HS.b⟩ ))
     refine dg_ 20 (nB c375) (fun _ => Run.move rfl rfl) ?_
     refine dg_ 21 (nB c375) (fun _ => Run.move rfl rfl) ?_
     refine dg_ 22 (nB c375) (fun _ => Run.len (ts := #[]) rfl underlying71 rfl) ?_
     exact by (
     obtain ⟨⟨q376, q377⟩, H⟩ := if_some H
     obtain ⟨ad378, rfl⟩ := C_open (HS.getN 1 rfl) (lenpos q376 q377)
     refine dg_ 23 (nB c375) (fun _ => Run.indexAddr rfl rfl rfl underlying71 (sz := 2) (by kernel_rfl) q376 q377) ?_
     obtain ⟨e379, el380, HSW⟩ := HSW.elN 0 rfl (by decide) o62 (t342.1.length : Int) q376 q377
     replace HS := HS.carry1N HSW HB
     obtain ⟨A381, c382, hc383, le384, HS⟩ := HS.eN 0 rfl at62_0
     obtain ⟨A385, c386, hc387, le388, HS⟩ := HS.eN 1 rfl at62_1
     refine dh_ 24 (nB c375) HB (fun w_ hw_ => Run.loadS (cs := [.slice A381 ((t350.1.getD (t342.1.length : Int).toNat o62).f0.length) c382, .slice A385 ((t350.1.getD (t342.1.length : Int).toNat o62).f1.length) c386]) rfl rfl underlying62 rfl (by kernel_rfl) (cells_part ((HSW.below hw_).getN 0 rfl).2 (part_cons hc383 (part_cons hc387 part_nil)))) ?_
     exact by (
     refine dh_ 25 (nB c375) HB (fun w_ hw_ => Run.loadS (cs := [.slice A25 t10.2.2.f0.length c26, .slice A29 t10.2.2.f1.length c30]) rfl rfl underlying62 rfl (by kernel_rfl) (box_part ((HSW.below hw_).mu 7 rfl) part_all)) ?_
     obtain ⟨t389, ha390, H⟩ := bind_some H
     refine dcs_ HS HB 26 (w_on rfl rfl rfl (nB c375)) func51 (laws_sameCell.runs k (t350.1.getD (t342.1.length : Int).toNat o62) A381 c382 A385 c386 (⟨t10.2.2.f0, t10.2.2.f1⟩ : S62) A25 c26 A29 c30 t389 _ (HS.getN 1 rfl) le384 (HS.getN 0 rfl) le388 (HS.getN 23 rfl) le27 (HS.getN 24 rfl) le31 ha390) (fun w391 HS HB => ?_)
     clear ha390
     refine dg_ 27 (nB c375) (fun _ => Run.not rfl rfl) ?_
     refine dp_ 28 (fun _ => Run.pickF rfl rfl (nB c375) rfl) ?_
     refine dm_ 29 ?_
     rcases eti_ H with ⟨c392, H⟩ | ⟨c392, H⟩
     · refine doTs_ 4 116 [30, 31, 32, 33] [117, 118, 119, 120] (nB (bF c392)) ?_
       exact by (
       refine dp_ 34 (fun _ => Run.pickT rfl rfl (nB (bF c392)) rfl) ?_
       refine dm_ 35 ?_
       refine doTs_ 7 122 [36, 37, 38, 39, 40, 41, 42] [123, 124, 125, 126, 127, 128, 129] rfl ?_
       refine dp_ 43 (fun _ => Run.pickT rfl rfl rfl rfl) ?_
       refine dd_ ?_
       clear HB HSW
       refine via_ hK358 (wy_ rfl ?_)
       clear hK358
       exact by (
       refine sr_ fun _ hK462 => ?_
       refine ad_ hK462 ?_
       clear hK462
       obtain rfl := os H
       exact rt1 Try.f9 rfl rfl hR_ ⟨rfl, HS.b⟩ ))
     refine dh_ 30 (nB c392) HB (fun w_ hw_ => Run.loadS (cs := [(.slice A83 t63.1.f0.length c84), (.slice A85 t63.1.f1.length c86)]) rfl rfl underlying58 rfl (by kernel_rfl) (box_part ((HSW.below hw_).mu 3 rfl) part_all)) ?_
     refine dh_ 31 (nB c392) HB (fun w_ hw_ => Run.loadS (cs := [(.slice A88 t63.2.1.f0.length c89), vi t63.2.1.f1]) rfl rfl underlying67 rfl (by kernel_rfl) (box_part ((HSW.below hw_).mu 2 rfl) part_all)) ?_
     obtain ⟨t393, ha394, H⟩ := bind_some H
     exact by (
     refine dcs_ HS HB 32 (w_on rfl rfl rfl (nB c392)) func52 (spec_TableOk.runs k (⟨t63.1.f0, t63.1.f1⟩ : S58) A83 c84 A85 c86 (⟨t63.2.1.f0, t63.2.1.f1⟩ : S67) A88 c89 t393 _ (row_C rfl (HS.mu 6 rfl) (HS.getN 16 rfl)) (row_le (HS.mu 6 rfl)) (row_C rfl (HS.mu 5 rfl) (HS.getN 15 rfl)) (row_le (HS.mu 5 rfl)) (row_C rfl (HS.mu 4 rfl) (HS.getN 14 rfl)) (row_le (HS.mu 4 rfl)) ha394) (fun w395 HS HB => ?_)
     clear ha394
     refine dg_ 33 (nB c392) (fun _ => Run.not rfl rfl) ?_
     refine dp_ 34 (fun _ => Run.pickF rfl rfl (nB c392) rfl) ?_
     refine dm_ 35 ?_
     rcases eti_ H with ⟨c396, H⟩ | ⟨c396, H⟩
     · refine doTs_ 7 122 [36, 37, 38, 39, 40, 41, 42] [123, 124, 125, 126, 127, 128, 129] (nB (bF c396)) ?_
       refine dp_ 43 (fun _ => Run.pickT rfl rfl (nB (bF c396)) rfl) ?_
       exact by (
       refine dd_ ?_
       clear HB HSW
       refine via_ hK358 (wy_ rfl ?_)
       clear hK358
       refine sr_ fun _ hK461 => ?_
       refine ad_ hK461 ?_
       clear hK461
       obtain rfl := os H
       exact rt1 Try.f9 rfl rfl hR_ ⟨rfl, HS.b⟩ )
     exact by (
     refine dfg_ 36 (nB c396) underlying67 ?_
     refine dfg_ 39 (nB c396) underlying67 ?_
     refine blg_ 37 (nB c396) HSW HB 2 underlying22 rfl ?_
     refine dg_ 38 (nB c396) (fun _ => Run.len (ts := #[]) rfl underlying22 rfl) ?_
     refine blg_ 40 (nB c396) HSW HB 2 underlying3 rfl ?_
     obtain ⟨t397, ha398, H⟩ := bind_some H
     refine dcs0_ HS HB 41 (w_on rfl rfl rfl (nB c396)) func53 (impl_NeedPages.calls t63.2.1.f1 t397 _ ha398) (fun w399 HS HB => ?_)
     clear ha398
     exact by (
     refine dg_ 42 (nB c396) (fun _ => Run.bin rfl rfl rfl bin_neq) ?_
     refine dp_ 43 (fun _ => Run.pickF rfl rfl (nB c396) rfl) ?_
     refine dd_ ?_
     clear HB HSW
     refine via_ hK358 ?_
     clear hK358
     rcases eti_ H with ⟨c400, H⟩ | ⟨c400, H⟩
     · refine wy_ (qT c400) (sr_ fun _ hK460 => ?_)
       exact by (
       refine ad_ hK460 ?_
       clear hK460
       obtain rfl := os H
       exact rt1 Try.f9 rfl rfl hR_ ⟨rfl, HS.b⟩ )
     refine wn_ (qF c400) (WC.skip (via_ hK357 (WC.seq fun K401 hK401 => ?_)))
     clear hK357
     refine sr_ fun _ hK402 => ?_
     refine ad_ hK402 ?_
     exact by (
     clear hK402
     refine WC.block ?_
     obtain ⟨G403, hG404, oc405, H, Ho406⟩ := open_G H
     let J408 := fun (i407 : Int) (E_ : Env) (W_ : World) => E_ = [(3, .pointer (some ⟨b33, 0, none⟩)), (4, .slice (some ad54) t10.2.1.length c22), (6, vi (Int.tmod (t40.getD (0 : Int).toNat 0) (t10.2.1.length : Int))), (7, .pointer (some ⟨b78, 0, none⟩)), (17, vi i407)] ∧ St (fun _ => True) w W_ [boxM b233 #[.slice A227 t216.2.1.f0.length c228, vi t216.2.1.f1] 67, boxM b231 #[.slice A219 t216.1.f0.length c220, .slice A223 t216.1.f1.length c224] 58, boxM b80 #[(.slice A88 t63.2.1.f0.length c89), vi t63.2.1.f1] 67, boxM b78 #[(.slice A83 t63.1.f0.length c84), (.slice A85 t63.1.f1.length c86)] 58, rowM w.heap.size 3 1 (.slice A88 t63.2.1.f0.length c89) t63.2.1.f0.length I76, rowM w.heap.size 71 1 (.slice A85 t63.1.f1.length c86) t63.1.f1.length I74, rowM w.heap.size 3 1 (.slice A83 t63.1.f0.length c84) t63.1.f0.length I72, boxM b35 #[.slice A25 t10.2.2.f0.length c26, .slice A29 t10.2.2.f1.length c30] 62, boxM b33 #[.slice A13 t10.1.f0.length c14, .slice A17 t10.1.f1.length c18] 58] [(cF kU A0 l0)] [(cF kS149 A385 (t350.1.getD (t342.1.length : Int).toNat o62).f1), (cF kS149 A381 (t350.1.getD (t342.1.length : Int).toNat o62).f0), (cF kI A338 (t10.2.1.getD (Int.tmod (t40.getD (0 : Int).toNat 0) (t10.2.1.length : Int)).toNat o67).f0), (cF kI A219 t216.1.f0), (cF kS62 A223 t216.1.f1), (cF kI A227 t216.2.1.f0), (rF kI t63.2.1.f0 I76), (rF kS62 t63.1.f1 I74), (rF kI t63.1.f0 I72), (cF kI A13 t10.1.f0), (cF kS62 A17 t10.1.f1), (cF k67 (some ad54) t10.2.1), (cF kS149 A25 t10.2.2.f0), (cF kS149 A29 t10.2.2.f1)]
     have X409 : ∀ E_ W_, (∃ i407, G403 (Sum.inr i407) = some r ∧ J408 i407 E_ W_) → ∀ a, Fits a 170 E_ → K401 a W_ := by
       rintro E_ w410 ⟨i407, H, rfl, HS⟩
       rw [hG404] at H
       (try dsimp only at H)
       exact by (
       refine hK401 _ _ ?_
       clear hK401
       refine sr_ fun _ hK411 => ?_
       refine ad_ hK411 ?_
       clear hK411
       obtain rfl := os H
       exact rt1 Try.f9 rfl rfl hR_ ⟨rfl, HS.b⟩ )
     clear hK401
     exact by (
     refine WC.loop (fun k_ E_ W_ => ∃ i407, (∃ o_, laws_FnBlocks.l0 t10 t40 t63 k_ i407 = some o_ ∧ G403 o_ = some r) ∧ J408 i407 E_ W_) k ⟨0, ⟨_, H, Ho406⟩, rfl, (St.pk HS [0] [0, 1, 7, 9, 10, 11, 14, 15, 16, 20, 21, 22, 23, 24] rfl rfl)⟩ (sb rfl) ?_
     rintro k_ E_ w413 ⟨i407, ⟨oc405, H, Ho406⟩, rfl, HS⟩
     rcases k_ with _ | k414
     · exact no_ H
     replace H : laws_FnBlocks.b0 t10 t40 t63 (laws_FnBlocks.l0 t10 t40 t63 k414) k414 i407 = some oc405 := H
     unfold laws_FnBlocks.b0 at H
     refine WC.seq fun _ hK415 => ?_
     refine sr_ fun _ hK416 => ?_
     exact by (
     refine mv_ ?_
     refine mv_ ?_
     refine ln_ underlying59 ?_
     refine b_ bin_lss ?_
     refine dn_ hK416 ?_
     clear hK416
     rcases eti_ H with ⟨c417, H⟩ | ⟨c417, H⟩
     · refine wn_ (dF c417) (WC.exit ?_)
       obtain rfl := os H
       exact wv_ iq X409 ⟨i407, Ho406, rfl, HS⟩
     exact by (
     refine wy_ (dT c417) (WC.skip (via_ hK415 (WC.seq fun _ hK418 => ?_)))
     clear hK415
     refine WC.block (WC.seq fun _ hK419 => ?_)
     refine sr_ fun _ hK420 => ?_
     refine mv_ ?_
     refine mv_ ?_
     refine b_ bin_eql ?_
     refine dn_ hK420 ?_
     exact by (
     clear hK420
     rcases ite_ H with ⟨c421, H⟩ | ⟨c421, H⟩
     · refine wy_ (eT c421) (WC.exit (via_ hK418 (rg_ (mv_ ?_))))
       clear hK418
       refine b_ bin_add64 ?_
       refine as_ ?_
       refine WL.done ?_
       exact wr_ k414 iq ⟨(wrap64 (i407 + 1)), ⟨_, H, Ho406⟩, rfl, HS⟩
     exact by (
     refine wn_ (eF c421) (WC.skip (via_ hK419 (WC.seq fun _ hK422 => ?_)))
     clear hK419
     refine WC.drawS HS [] rfl rfl (fun w423 HS => ?_)
     have HB := Below.refl w423.heap.size w423
     have HSW := HS
     refine dm_ 1 ?_
     refine dm_ 2 ?_
     obtain ⟨⟨q424, q425⟩, H⟩ := if_some H
     exact by (
     refine di_ 3 underlying59 2 q424 q425 ?_
     refine dt_ 0 (Below.refl _ _) (fun w_ hw_ => Run.loadS (cs := [.slice A13 t10.1.f0.length c14, .slice A17 t10.1.f1.length c18]) rfl rfl underlying58 rfl (by kernel_rfl) (box_part ((HS.below hw_).mu 8 rfl) part_all)) ?_
     obtain ⟨e426, el427, HS⟩ := HS.elN 11 rfl (by decide) o67 i407 q424 q425
     replace HSW := HS
     obtain ⟨A428, c429, hc430, le431, HS⟩ := HS.eN 0 rfl at67_0
     refine dt_ 4 (Below.refl _ _) (fun w_ hw_ => Run.loadS (cs := [.slice A428 ((t10.2.1.getD i407.toNat o67).f0.length) c429, vi ((t10.2.1.getD i407.toNat o67).f1)]) rfl rfl underlying67 rfl (by kernel_rfl) (cells_part ((HS.below hw_).getN 1 rfl).2 (part_cons hc430 (part_cons (at67_1 (AtK.whole ((HS.below hw_).getN 1 rfl).1)).int part_nil)))) ?_
     obtain ⟨t432, ha433, H⟩ := bind_some H
     refine dc_ 5 (w_none rfl) func48 (spec_CellsOf.runs k414 (⟨t10.1.f0, t10.1.f1⟩ : S58) A13 c14 A17 c18 (t10.2.1.getD i407.toNat o67) A428 c429 t432.1 t432.2 _ (HS.getN 11 rfl) le15 (HS.getN 12 rfl) le19 (HS.getN 0 rfl) le431 ha433) ?_
     exact by (
     clear ha433
     rintro _ w434 ⟨A435, c436, rfl, le437, hf438, hb⟩
     replace HB := HB.trans (hb.mono HB.size)
     replace HS := HS.newNs hb (foot_cons hf438 foot_nil)
     refine ⟨HB, _, rfl, ?_⟩
     clear hb
     refine dm_ 6 ?_
     refine dp_ 7 (fun _ => Run.extract rfl rfl rfl) ?_
     exact by (
     refine dp_ 8 (fun _ => Run.extract rfl rfl rfl) ?_
     refine dp_ 9 (fun _ => Run.assign rfl rfl) ?_
     refine dp_ 10 (fun _ => Run.assign rfl rfl) ?_
     refine dd_ ?_
     clear HB HSW
     refine via_ hK422 (WC.seq fun _ hK439 => ?_)
     clear hK422
     refine WC.drawS HS [] rfl rfl (fun w440 HS => ?_)
     exact by (
     have HB := Below.refl w440.heap.size w440
     have HSW := HS
     refine dm_ 1 ?_
     refine dm_ 2 ?_
     refine di_ 3 underlying59 2 q424 q425 ?_
     refine dt_ 0 (Below.refl _ _) (fun w_ hw_ => Run.loadS (cs := [(.slice A83 t63.1.f0.length c84), (.slice A85 t63.1.f1.length c86)]) rfl rfl underlying58 rfl (by kernel_rfl) (box_part ((HS.below hw_).mu 3 rfl) part_all)) ?_
     refine dt_ 4 (Below.refl _ _) (fun w_ hw_ => Run.loadS (cs := [.slice A428 ((t10.2.1.getD i407.toNat o67).f0.length) c429, vi ((t10.2.1.getD i407.toNat o67).f1)]) rfl rfl underlying67 rfl (by kernel_rfl) (cells_part ((HS.below hw_).getN 2 rfl).2 (part_cons hc430 (part_cons (at67_1 (AtK.whole ((HS.below hw_).getN 2 rfl).1)).int part_nil)))) ?_
     obtain ⟨t441, ha442, H⟩ := bind_some H
     exact by (
     refine dc_ 5 (w_none rfl) func49 (impl_CellsOf.runs k414 (⟨t63.1.f0, t63.1.f1⟩ : S58) A83 c84 A85 c86 (t10.2.1.getD i407.toNat o67) A428 c429 t441.1 t441.2 _ (row_C rfl (HS.mu 6 rfl) (HS.getN 11 rfl)) (row_le (HS.mu 6 rfl)) (row_C rfl (HS.mu 5 rfl) (HS.getN 10 rfl)) (row_le (HS.mu 5 rfl)) (HS.getN 1 rfl) le431 ha442) ?_
     clear ha442
     rintro _ w443 ⟨v444, bl445, rfl, hO_, hb⟩
     replace HB := HB.trans (hb.mono HB.size)
     replace HS := HS.got hb hO_
     dsimp only [List.cons_append, List.nil_append] at HS
     clear hO_
     obtain ⟨I446, bl447, HS⟩ := HS.unseal (sz := 2) rfl
     exact by (
     replace HS := HS.freezeN 1 (p := (rF k62 t441.1 I446)) rfl (fun _ hP_ _ => RepsB.reps hP_)
     dsimp only [List.eraseIdx] at HS
     refine ⟨HB, _, rfl, ?_⟩
     clear hb
     refine dm_ 6 ?_
     refine dp_ 7 (fun _ => Run.extract rfl rfl rfl) ?_
     refine dp_ 8 (fun _ => Run.extract rfl rfl rfl) ?_
     refine dp_ 9 (fun _ => Run.assign rfl rfl) ?_
     exact by (
     refine dp_ 10 (fun _ => Run.assign rfl rfl) ?_
     refine dd_ ?_
     clear HB HSW
     refine via_ hK439 (sr_ fun _ hK448 => ?_)
     clear hK439
     refine mv_ ?_
     refine nt_ ?_
     refine mv_ ?_
     exact by (
     rcases eti_ H with ⟨c449, H⟩ | ⟨c449, H⟩
     · refine off_ (c' := true) (nB (bF c449)) ?_
       refine WL.know 160 (nB (bF c449)) ?_
       refine fast_ ?_
       refine via_ hK448 (wy_ rfl ?_)
       clear hK448
       refine sr_ fun _ hK459 => ?_
       refine ad_ hK459 ?_
       exact by (
       clear hK459
       refine WC.ret ?_
       obtain rfl := os H
       rw [hG404] at Ho406
       replace H : some _ = some _ := Ho406
       obtain rfl := os H
       exact fin1 Try.f9 rfl rfl hR_ ⟨rfl, HS.b⟩ )
     refine on_ (nB c449) (mv_ ?_)
     exact by (
     refine on_ (nB c449) (nt_ ?_)
     refine v_ (Run.pickF rfl rfl (nB c449) rfl) ?_
     refine mv_ ?_
     rcases eti_ H with ⟨c450, H⟩ | ⟨c450, H⟩
     · refine off_ (c' := true) (nB (bF c450)) ?_
       refine WL.know 164 (nB (bF c450)) ?_
       refine fast_ ?_
       refine via_ hK448 (wy_ rfl ?_)
       exact by (
       clear hK448
       refine sr_ fun _ hK458 => ?_
       refine ad_ hK458 ?_
       clear hK458
       refine WC.ret ?_
       obtain rfl := os H
       rw [hG404] at Ho406
       replace H : some _ = some _ := Ho406
       obtain rfl := os H
       exact fin1 Try.f9 rfl rfl hR_ ⟨rfl, HS.b⟩ )
     exact by (
     refine on_ (nB c450) (mv_ ?_)
     refine on_ (nB c450) (mv_ ?_)
     refine on_ (nB c450) ?_
     obtain ⟨A451, c452, rfl⟩ := row_slice (HS.mu 0 rfl)
     obtain ⟨t453, ha454, H⟩ := bind_some H
     refine cs_ HS func50 (laws_sameCells.runs k414 A435 c436 t432.1 A451 c452 t441.1 t453 _ (HS.getN 1 rfl) le437 (row_C rfl (HS.mu 0 rfl) (HS.getN 0 rfl)) (row_le (HS.mu 0 rfl)) ha454) (fun w455 HS => ?_)
     clear ha454
     refine on_ (nB c450) (nt_ ?_)
     exact by (
     refine v_ (Run.pickF rfl rfl (nB c450) rfl) ?_
     refine dn_ hK448 ?_
     clear hK448
     rcases ite_ H with ⟨c456, H⟩ | ⟨c456, H⟩
     · refine wn_ (nB c456) (WC.skip (via_ hK418 (rg_ (mv_ ?_))))
       clear hK418
       refine b_ bin_add64 ?_
       refine as_ ?_
       exact by (
       refine WL.done ?_
       exact wr_ k414 iq ⟨(wrap64 (i407 + 1)), ⟨_, H, Ho406⟩, rfl, (St.pk (St.forget HS 0 rfl) [0] [4, 5, 6, 7, 8, 9, 10, 11, 12, 13, 14, 15, 16, 17] rfl rfl)⟩ )
     refine wy_ (nB (bF c456)) (sr_ fun _ hK457 => ?_)
     refine ad_ hK457 ?_
     clear hK457
     refine WC.ret ?_
     obtain rfl := os H
     rw [hG404] at Ho406
     exact by (
     replace H : some _ = some _ := Ho406
     obtain rfl := os H
     exact fin1 Try.f9 rfl rfl hR_ ⟨rfl, HS.b⟩ ))))))))))))))))))))))))))))))))))))))
   refine three__ 6 11 12 ?_ ?_ ?_
   · have HT_ := True.intro
     obtain ⟨t216, ha217, H⟩ := bind_some H
     refine dco_ 6 (w_none rfl) func46 (spec_AddCell.runs k (⟨t10.1.f0, t10.1.f1⟩ : S58) A13 c14 A17 c18 (t10.2.1.getD (Int.tmod (t40.getD (0 : Int).toNat 0) (t10.2.1.length : Int)).toNat o67) A211 c212 (⟨t10.2.2.f0, t10.2.2.f1⟩ : S62) A25 c26 A29 c30 t216.1 t216.2.1 t216.2.2 _ (HS.getN 8 rfl) le15 (HS.getN 9 rfl) le19 (HS.getN 0 rfl) le214 (HS.getN 11 rfl) le27 (HS.getN 12 rfl) le31 ha217) ?_
     clear ha217
     exact by (
     rintro _ w218 ⟨A219, c220, A223, c224, A227, c228, rfl, le221, hf222, le225, hf226, le229, hf230, hb⟩
     replace HS := HS.newNs hb (foot_cons hf222 (foot_cons hf226 (foot_cons hf230 foot_nil)))
     refine ⟨⟨HS.nowO, HS.nowN.2.2.2.2, ⟨(HS.mu 0 rfl), (HS.mu 1 rfl), (HS.mu 5 rfl), (HS.mu 6 rfl), trivial⟩⟩, _, rfl, ?_⟩
     clear hb
     refine dm_ 7 ?_
     refine dp_ 8 (fun _ => Run.extract rfl rfl rfl) ?_
     refine dp_ 9 (fun _ => Run.extract rfl rfl rfl) ?_
     refine dp_ 10 (fun _ => Run.extract rfl rfl rfl) ?_
     exact by (
     refine two__ 11 12 ?_ ?_
     · have HT_ := True.intro
       refine WDo.alloc (v := .agg #[sn, sn]) (cs := #[sn, sn]) 11 (w_none rfl) HS rfl (by kernel_rfl) rfl (fun b231 w232 hb231 HS => ?_)
       refine ⟨⟨HS.nowO, HS.nowN.2.2.2.2, ⟨(HS.mu 1 rfl), (HS.mu 2 rfl), (HS.mu 6 rfl), (HS.mu 7 rfl), trivial⟩⟩, ?_⟩
       refine WD.alloc (v := .agg #[sn, vi 0]) (cs := #[sn, vi 0]) 12 (w_none rfl) HS rfl (by kernel_rfl) rfl (fun b233 w234 hb233 HS => ?_)
       refine ⟨⟨HS.nowO, HS.nowN.2.2.2.2, ⟨(HS.mu 2 rfl), (HS.mu 3 rfl), (HS.mu 7 rfl), (HS.mu 8 rfl), trivial⟩⟩, ?_⟩
       refine WD.storeS 13 HS 1 rfl rfl rfl rfl (oneL rfl) (by kernel_rfl) (ble_ rfl) (cs' := #[.slice A219 t216.1.f0.length c220, .slice A223 t216.1.f1.length c224]) (by kernel_rfl) (fun w235 HS => ?_)
       dsimp only [List.set] at HS
       exact by (
       refine ⟨⟨HS.nowO, HS.nowN.2.2.2.2, ⟨(HS.mu 2 rfl), (HS.mu 3 rfl), (HS.mu 7 rfl), (HS.mu 8 rfl), trivial⟩⟩, ?_⟩
       refine WD.storeS 14 HS 0 rfl rfl rfl rfl (oneL rfl) (by kernel_rfl) (ble_ rfl) (cs' := #[.slice A227 t216.2.1.f0.length c228, vi t216.2.1.f1]) (by kernel_rfl) (fun w236 HS => ?_)
       dsimp only [List.set] at HS
       refine ⟨⟨HS.nowO, HS.nowN.2.2.2.2, ⟨(HS.mu 2 rfl), (HS.mu 3 rfl), (HS.mu 7 rfl), (HS.mu 8 rfl), trivial⟩⟩, ?_⟩
       refine dp_ 15 (fun _ => Run.assign rfl rfl) ?_
       exact dd_ (wv_ iq X215 ⟨b231, b233, t216, A219, c220, A223, c224, A227, c228, rfl, H, le221, le225, le229, HS⟩) )
     · have HT_ := True.intro
       refine WDo.alloc (v := .agg #[sn, vi 0]) (cs := #[sn, vi 0]) 12 (w_none rfl) HS rfl (by kernel_rfl) rfl (fun b237 w238 hb237 HS => ?_)
       exact by (
       refine ⟨⟨HS.nowO, HS.nowN.2.2.2.2, ⟨(HS.mu 1 rfl), (HS.mu 2 rfl), (HS.mu 6 rfl), (HS.mu 7 rfl), trivial⟩⟩, ?_⟩
       refine WD.alloc (v := .agg #[sn, sn]) (cs := #[sn, sn]) 11 (w_none rfl) HS rfl (by kernel_rfl) rfl (fun b239 w240 hb239 HS => ?_)
       refine ⟨⟨HS.nowO, HS.nowN.2.2.2.2, ⟨(HS.mu 2 rfl), (HS.mu 3 rfl), (HS.mu 7 rfl), (HS.mu 8 rfl), trivial⟩⟩, ?_⟩
       refine WD.storeS 13 HS 0 rfl rfl rfl rfl (oneL rfl) (by kernel_rfl) (ble_ rfl) (cs' := #[.slice A219 t216.1.f0.length c220, .slice A223 t216.1.f1.length c224]) (by kernel_rfl) (fun w241 HS => ?_)
       dsimp only [List.set] at HS
       refine ⟨⟨HS.nowO, HS.nowN.2.2.2.2, ⟨(HS.mu 2 rfl), (HS.mu 3 rfl), (HS.mu 7 rfl), (HS.mu 8 rfl), trivial⟩⟩, ?_⟩
       refine WD.storeS 14 HS 1 rfl rfl rfl rfl (oneL rfl) (by kernel_rfl) (ble_ rfl) (cs' := #[.slice A227 t216.2.1.f0.length c228, vi t216.2.1.f1]) (by kernel_rfl) (fun w242 HS => ?_)
       dsimp only [List.set] at HS
       exact by (
       refine ⟨⟨HS.nowO, HS.nowN.2.2.2.2, ⟨(HS.mu 2 rfl), (HS.mu 3 rfl), (HS.mu 7 rfl), (HS.mu 8 rfl), trivial⟩⟩, ?_⟩
       refine dp_ 15 (fun _ => Run.assign rfl rfl) ?_
       exact dd_ (wv_ iq X215 ⟨b239, b237, t216, A219, c220, A223, c224, A227, c228, rfl, H, le221, le225, le229, (St.front (St.front (St.front (St.front (St.front (St.front (St.front (St.front (St.front HS 8 rfl) 8 rfl) 8 rfl) 8 rfl) 8 rfl) 8 rfl) 8 rfl) 7 rfl) 8 rfl)⟩) ))))
   · have HT_ := True.intro
     refine WDo.alloc (v := .agg #[sn, sn]) (cs := #[sn, sn]) 11 (w_none rfl) HS rfl (by kernel_rfl) rfl (fun b243 w244 hb243 HS => ?_)
     refine ⟨⟨HS.nowO, HS.nowN.2, ⟨(HS.mu 1 rfl), (HS.mu 2 rfl), (HS.mu 6 rfl), (HS.mu 7 rfl), trivial⟩⟩, ?_⟩
     refine two__ 6 12 ?_ ?_
     · have HT_ := True.intro
       exact by (
       obtain ⟨t245, ha246, H⟩ := bind_some H
       refine dco_ 6 (w_none rfl) func46 (spec_AddCell.runs k (⟨t10.1.f0, t10.1.f1⟩ : S58) A13 c14 A17 c18 (t10.2.1.getD (Int.tmod (t40.getD (0 : Int).toNat 0) (t10.2.1.length : Int)).toNat o67) A211 c212 (⟨t10.2.2.f0, t10.2.2.f1⟩ : S62) A25 c26 A29 c30 t245.1 t245.2.1 t245.2.2 _ (HS.getN 8 rfl) le15 (HS.getN 9 rfl) le19 (HS.getN 0 rfl) le214 (HS.getN 11 rfl) le27 (HS.getN 12 rfl) le31 ha246) ?_
       clear ha246
       rintro _ w247 ⟨A248, c249, A252, c253, A256, c257, rfl, le250, hf251, le254, hf255, le258, hf259, hb⟩
       replace HS := HS.newNs hb (foot_cons hf251 (foot_cons hf255 (foot_cons hf259 foot_nil)))
       refine ⟨⟨HS.nowO, HS.nowN.2.2.2.2, ⟨(HS.mu 1 rfl), (HS.mu 2 rfl), (HS.mu 6 rfl), (HS.mu 7 rfl), trivial⟩⟩, _, rfl, ?_⟩
       clear hb
       refine dm_ 7 ?_
       exact by (
       refine dp_ 8 (fun _ => Run.extract rfl rfl rfl) ?_
       refine dp_ 9 (fun _ => Run.extract rfl rfl rfl) ?_
       refine dp_ 10 (fun _ => Run.extract rfl rfl rfl) ?_
       refine WD.alloc (v := .agg #[sn, vi 0]) (cs := #[sn, vi 0]) 12 (w_none rfl) HS rfl (by kernel_rfl) rfl (fun b260 w261 hb260 HS => ?_)
       refine ⟨⟨HS.nowO, HS.nowN.2.2.2.2, ⟨(HS.mu 2 rfl), (HS.mu 3 rfl), (HS.mu 7 rfl), (HS.mu 8 rfl), trivial⟩⟩, ?_⟩
       refine WD.storeS 13 HS 1 rfl rfl rfl rfl (oneL rfl) (by kernel_rfl) (ble_ rfl) (cs' := #[.slice A248 t245.1.f0.length c249, .slice A252 t245.1.f1.length c253]) (by kernel_rfl) (fun w262 HS => ?_)
       dsimp only [List.set] at HS
       refine ⟨⟨HS.nowO, HS.nowN.2.2.2.2, ⟨(HS.mu 2 rfl), (HS.mu 3 rfl), (HS.mu 7 rfl), (HS.mu 8 rfl), trivial⟩⟩, ?_⟩
       exact by (
       refine WD.storeS 14 HS 0 rfl rfl rfl rfl (oneL rfl) (by kernel_rfl) (ble_ rfl) (cs' := #[.slice A256 t245.2.1.f0.length c257, vi t245.2.1.f1]) (by kernel_rfl) (fun w263 HS => ?_)
       dsimp only [List.set] at HS
       refine ⟨⟨HS.nowO, HS.nowN.2.2.2.2, ⟨(HS.mu 2 rfl), (HS.mu 3 rfl), (HS.mu 7 rfl), (HS.mu 8 rfl), trivial⟩⟩, ?_⟩
       refine dp_ 15 (fun _ => Run.assign rfl rfl) ?_
       exact dd_ (wv_ iq X215 ⟨b243, b260, t245, A248, c249, A252, c253, A256, c257, rfl, H, le250, le254, le258, HS⟩) )))
     · have HT_ := True.intro
       refine WDo.alloc (v := .agg #[sn, vi 0]) (cs := #[sn, vi 0]) 12 (w_none rfl) HS rfl (by kernel_rfl) rfl (fun b264 w265 hb264 HS => ?_)
       refine ⟨⟨HS.nowO, HS.nowN.2, ⟨(HS.mu 2 rfl), (HS.mu 3 rfl), (HS.mu 7 rfl), (HS.mu 8 rfl), trivial⟩⟩, ?_⟩
       exact by (
       obtain ⟨t266, ha267, H⟩ := bind_some H
       refine dc_ 6 (w_none rfl) func46 (spec_AddCell.runs k (⟨t10.1.f0, t10.1.f1⟩ : S58) A13 c14 A17 c18 (t10.2.1.getD (Int.tmod (t40.getD (0 : Int).toNat 0) (t10.2.1.length : Int)).toNat o67) A211 c212 (⟨t10.2.2.f0, t10.2.2.f1⟩ : S62) A25 c26 A29 c30 t266.1 t266.2.1 t266.2.2 _ (HS.getN 8 rfl) le15 (HS.getN 9 rfl) le19 (HS.getN 0 rfl) le214 (HS.getN 11 rfl) le27 (HS.getN 12 rfl) le31 ha267) ?_
       clear ha267
       rintro _ w268 ⟨A269, c270, A273, c274, A277, c278, rfl, le271, hf272, le275, hf276, le279, hf280, hb⟩
       replace HS := HS.newNs hb (foot_cons hf272 (foot_cons hf276 (foot_cons hf280 foot_nil)))
       refine ⟨⟨HS.nowO, HS.nowN.2.2.2.2, ⟨(HS.mu 2 rfl), (HS.mu 3 rfl), (HS.mu 7 rfl), (HS.mu 8 rfl), trivial⟩⟩, _, rfl, ?_⟩
       clear hb
       refine dm_ 7 ?_
       exact by (
       refine dp_ 8 (fun _ => Run.extract rfl rfl rfl) ?_
       refine dp_ 9 (fun _ => Run.extract rfl rfl rfl) ?_
       refine dp_ 10 (fun _ => Run.extract rfl rfl rfl) ?_
       refine WD.storeS 13 HS 1 rfl rfl rfl rfl (oneL rfl) (by kernel_rfl) (ble_ rfl) (cs' := #[.slice A269 t266.1.f0.length c270, .slice A273 t266.1.f1.length c274]) (by kernel_rfl) (fun w281 HS => ?_)
       dsimp only [List.set] at HS
       refine ⟨⟨HS.nowO, HS.nowN.2.2.2.2, ⟨(HS.mu 2 rfl), (HS.mu 3 rfl), (HS.mu 7 rfl), (HS.mu 8 rfl), trivial⟩⟩, ?_⟩
       refine WD.storeS 14 HS 0 rfl rfl rfl rfl (oneL rfl) (by kernel_rfl) (ble_ rfl) (cs' := #[.slice A277 t266.2.1.f0.length c278, vi t266.2.1.f1]) (by kernel_rfl) (fun w282 HS => ?_)
       dsimp only [List.set] at HS
       exact by (
       refine ⟨⟨HS.nowO, HS.nowN.2.2.2.2, ⟨(HS.mu 2 rfl), (HS.mu 3 rfl), (HS.mu 7 rfl), (HS.mu 8 rfl), trivial⟩⟩, ?_⟩
       refine dp_ 15 (fun _ => Run.assign rfl rfl) ?_
       exact dd_ (wv_ iq X215 ⟨b243, b264, t266, A269, c270, A273, c274, A277, c278, rfl, H, le271, le275, le279, HS⟩) )))
   · have HT_ := True.intro
     refine WDo.alloc (v := .agg #[sn, vi 0]) (cs := #[sn, vi 0]) 12 (w_none rfl) HS rfl (by kernel_rfl) rfl (fun b283 w284 hb283 HS => ?_)
     refine ⟨⟨HS.nowO, HS.nowN.2, ⟨(HS.mu 1 rfl), (HS.mu 2 rfl), (HS.mu 6 rfl), (HS.mu 7 rfl), trivial⟩⟩, ?_⟩
     refine two__ 6 11 ?_ ?_
     · have HT_ := True.intro
       exact by (
       obtain ⟨t285, ha286, H⟩ := bind_some H
       refine dco_ 6 (w_none rfl) func46 (spec_AddCell.runs k (⟨t10.1.f0, t10.1.f1⟩ : S58) A13 c14 A17 c18 (t10.2.1.getD (Int.tmod (t40.getD (0 : Int).toNat 0) (t10.2.1.length : Int)).toNat o67) A211 c212 (⟨t10.2.2.f0, t10.2.2.f1⟩ : S62) A25 c26 A29 c30 t285.1 t285.2.1 t285.2.2 _ (HS.getN 8 rfl) le15 (HS.getN 9 rfl) le19 (HS.getN 0 rfl) le214 (HS.getN 11 rfl) le27 (HS.getN 12 rfl) le31 ha286) ?_
       clear ha286
       rintro _ w287 ⟨A288, c289, A292, c293, A296, c297, rfl, le290, hf291, le294, hf295, le298, hf299, hb⟩
       replace HS := HS.newNs hb (foot_cons hf291 (foot_cons hf295 (foot_cons hf299 foot_nil)))
       refine ⟨⟨HS.nowO, HS.nowN.2.2.2.2, ⟨(HS.mu 1 rfl), (HS.mu 2 rfl), (HS.mu 6 rfl), (HS.mu 7 rfl), trivial⟩⟩, _, rfl, ?_⟩
       clear hb
       refine dm_ 7 ?_
       exact by (
       refine dp_ 8 (fun _ => Run.extract rfl rfl rfl) ?_
       refine dp_ 9 (fun _ => Run.extract rfl rfl rfl) ?_
       refine dp_ 10 (fun _ => Run.extract rfl rfl rfl) ?_
       refine WD.alloc (v := .agg #[sn, sn]) (cs := #[sn, sn]) 11 (w_none rfl) HS rfl (by kernel_rfl) rfl (fun b300 w301 hb300 HS => ?_)
       refine ⟨⟨HS.nowO, HS.nowN.2.2.2.2, ⟨(HS.mu 2 rfl), (HS.mu 3 rfl), (HS.mu 7 rfl), (HS.mu 8 rfl), trivial⟩⟩, ?_⟩
       refine WD.storeS 13 HS 0 rfl rfl rfl rfl (oneL rfl) (by kernel_rfl) (ble_ rfl) (cs' := #[.slice A288 t285.1.f0.length c289, .slice A292 t285.1.f1.length c293]) (by kernel_rfl) (fun w302 HS => ?_)
       dsimp only [List.set] at HS
       refine ⟨⟨HS.nowO, HS.nowN.2.2.2.2, ⟨(HS.mu 2 rfl), (HS.mu 3 rfl), (HS.mu 7 rfl), (HS.mu 8 rfl), trivial⟩⟩, ?_⟩
       exact by (
       refine WD.storeS 14 HS 1 rfl rfl rfl rfl (oneL rfl) (by kernel_rfl) (ble_ rfl) (cs' := #[.slice A296 t285.2.1.f0.length c297, vi t285.2.1.f1]) (by kernel_rfl) (fun w303 HS => ?_)
       dsimp only [List.set] at HS
       refine ⟨⟨HS.nowO, HS.nowN.2.2.2.2, ⟨(HS.mu 2 rfl), (HS.mu 3 rfl), (HS.mu 7 rfl), (HS.mu 8 rfl), trivial⟩⟩, ?_⟩
       refine dp_ 15 (fun _ => Run.assign rfl rfl) ?_
       exact dd_ (wv_ iq X215 ⟨b300, b283, t285, A288, c289, A292, c293, A296, c297, rfl, H, le290, le294, le298, (St.front (St.front (St.front (St.front (St.front (St.front (St.front (St.front (St.front HS 8 rfl) 8 rfl) 8 rfl) 8 rfl) 8 rfl) 8 rfl) 8 rfl) 7 rfl) 8 rfl)⟩) )))
     · have HT_ := True.intro
       refine WDo.alloc (v := .agg #[sn, sn]) (cs := #[sn, sn]) 11 (w_none rfl) HS rfl (by kernel_rfl) rfl (fun b304 w305 hb304 HS => ?_)
       refine ⟨⟨HS.nowO, HS.nowN.2, ⟨(HS.mu 2 rfl), (HS.mu 3 rfl), (HS.mu 7 rfl), (HS.mu 8 rfl), trivial⟩⟩, ?_⟩
       exact by (
       obtain ⟨t306, ha307, H⟩ := bind_some H
       refine dc_ 6 (w_none rfl) func46 (spec_AddCell.runs k (⟨t10.1.f0, t10.1.f1⟩ : S58) A13 c14 A17 c18 (t10.2.1.getD (Int.tmod (t40.getD (0 : Int).toNat 0) (t10.2.1.length : Int)).toNat o67) A211 c212 (⟨t10.2.2.f0, t10.2.2.f1⟩ : S62) A25 c26 A29 c30 t306.1 t306.2.1 t306.2.2 _ (HS.getN 8 rfl) le15 (HS.getN 9 rfl) le19 (HS.getN 0 rfl) le214 (HS.getN 11 rfl) le27 (HS.getN 12 rfl) le31 ha307) ?_
       clear ha307
       rintro _ w308 ⟨A309, c310, A313, c314, A317, c318, rfl, le311, hf312, le315, hf316, le319, hf320, hb⟩
       replace HS := HS.newNs hb (foot_cons hf312 (foot_cons hf316 (foot_cons hf320 foot_nil)))
       refine ⟨⟨HS.nowO, HS.nowN.2.2.2.2, ⟨(HS.mu 2 rfl), (HS.mu 3 rfl), (HS.mu 7 rfl), (HS.mu 8 rfl), trivial⟩⟩, _, rfl, ?_⟩
       clear hb
       refine dm_ 7 ?_
       exact by (
       refine dp_ 8 (fun _ => Run.extract rfl rfl rfl) ?_
       refine dp_ 9 (fun _ => Run.extract rfl rfl rfl) ?_
       refine dp_ 10 (fun _ => Run.extract rfl rfl rfl) ?_
       refine WD.storeS 13 HS 0 rfl rfl rfl rfl (oneL rfl) (by kernel_rfl) (ble_ rfl) (cs' := #[.slice A309 t306.1.f0.length c310, .slice A313 t306.1.f1.length c314]) (by kernel_rfl) (fun w321 HS => ?_)
       dsimp only [List.set] at HS
       refine ⟨⟨HS.nowO, HS.nowN.2.2.2.2, ⟨(HS.mu 2 rfl), (HS.mu 3 rfl), (HS.mu 7 rfl), (HS.mu 8 rfl), trivial⟩⟩, ?_⟩
       refine WD.storeS 14 HS 1 rfl rfl rfl rfl (oneL rfl) (by kernel_rfl) (ble_ rfl) (cs' := #[.slice A317 t306.2.1.f0.length c318, vi t306.2.1.f1]) (by kernel_rfl) (fun w322 HS => ?_)
       dsimp only [List.set] at HS
       exact by (
       refine ⟨⟨HS.nowO, HS.nowN.2.2.2.2, ⟨(HS.mu 2 rfl), (HS.mu 3 rfl), (HS.mu 7 rfl), (HS.mu 8 rfl), trivial⟩⟩, ?_⟩
       refine dp_ 15 (fun _ => Run.assign rfl rfl) ?_
       exact dd_ (wv_ iq X215 ⟨b304, b283, t306, A309, c310, A313, c314, A317, c318, rfl, H, le311, le315, le319, (St.front (St.front (St.front (St.front (St.front (St.front (St.front (St.front (St.front HS 8 rfl) 8 rfl) 8 rfl) 8 rfl) 8 rfl) 8 rfl) 8 rfl) 7 rfl) 8 rfl)⟩) )))))
 refine three__ 6 11 12 ?_ ?_ ?_
 · have HT_ := True.intro
   obtain ⟨t63, ha64, H⟩ := bind_some H
   refine dco_ 6 (w_none rfl) func45 (impl_AddCell.runs k (⟨t10.1.f0, t10.1.f1⟩ : S58) A13 c14 A17 c18 (t10.2.1.getD (Int.tmod (t40.getD (0 : Int).toNat 0) (t10.2.1.length : Int)).toNat o67) A58 c59 (⟨t10.2.2.f0, t10.2.2.f1⟩ : S62) A25 c26 A29 c30 t63.1 t63.2.1 t63.2.2 _ (HS.getN 3 rfl) le15 (HS.getN 4 rfl) le19 (HS.getN 0 rfl) le61 (HS.getN 6 rfl) le27 (HS.getN 7 rfl) le31 ha64) ?_
   clear ha64
   exact by (
   rintro _ w65 ⟨v66, bl67, v68, bl69, v70, bl71, rfl, hO_, hb⟩
   replace HS := HS.got hb hO_
   dsimp only [List.cons_append, List.nil_append] at HS
   clear hO_
   obtain ⟨I72, bl73, HS⟩ := HS.unseal (sz := 1) rfl
   replace HS := HS.freezeN 1 (p := (rF kI t63.1.f0 I72)) rfl (fun _ hP_ _ => RepsB.reps hP_)
   dsimp only [List.eraseIdx] at HS
   replace HS := HS.front 1 rfl
   exact by (
   dsimp only [List.eraseIdx] at HS
   obtain ⟨I74, bl75, HS⟩ := HS.unseal (sz := 1) rfl
   replace HS := HS.freezeN 1 (p := (rF kS62 t63.1.f1 I74)) rfl (fun _ hP_ _ => RepsB.reps hP_)
   dsimp only [List.eraseIdx] at HS
   replace HS := HS.front 2 rfl
   dsimp only [List.eraseIdx] at HS
   obtain ⟨I76, bl77, HS⟩ := HS.unseal (sz := 1) rfl
   replace HS := HS.freezeN 1 (p := (rF kI t63.2.1.f0 I76)) rfl (fun _ hP_ _ => RepsB.reps hP_)
   exact by (
   dsimp only [List.eraseIdx] at HS
   refine ⟨⟨HS.nowO, HS.nowN.2.2.2.2, ⟨(HS.mu 3 rfl), (HS.mu 4 rfl), trivial⟩⟩, _, rfl, ?_⟩
   clear hb
   refine dm_ 7 ?_
   refine dp_ 8 (fun _ => Run.extract rfl rfl rfl) ?_
   refine dp_ 9 (fun _ => Run.extract rfl rfl rfl) ?_
   refine dp_ 10 (fun _ => Run.extract rfl rfl rfl) ?_
   refine two__ 11 12 ?_ ?_
   · have HT_ := True.intro
     exact by (
     refine WDo.alloc (v := .agg #[sn, sn]) (cs := #[sn, sn]) 11 (w_none rfl) HS rfl (by kernel_rfl) rfl (fun b78 w79 hb78 HS => ?_)
     refine ⟨⟨HS.nowO, HS.nowN.2.2.2.2, ⟨(HS.mu 4 rfl), (HS.mu 5 rfl), trivial⟩⟩, ?_⟩
     refine WD.alloc (v := .agg #[sn, vi 0]) (cs := #[sn, vi 0]) 12 (w_none rfl) HS rfl (by kernel_rfl) rfl (fun b80 w81 hb80 HS => ?_)
     refine ⟨⟨HS.nowO, HS.nowN.2.2.2.2, ⟨(HS.mu 5 rfl), (HS.mu 6 rfl), trivial⟩⟩, ?_⟩
     obtain ⟨A83, c84, rfl⟩ := row_slice (HS.mu 4 rfl)
     obtain ⟨A85, c86, rfl⟩ := row_slice (HS.mu 3 rfl)
     refine WD.storeS 13 HS 1 rfl rfl rfl rfl (oneL rfl) (by kernel_rfl) (ble_ rfl) (cs' := #[(.slice A83 t63.1.f0.length c84), (.slice A85 t63.1.f1.length c86)]) (by kernel_rfl) (fun w82 HS => ?_)
     dsimp only [List.set] at HS
     exact by (
     refine ⟨⟨HS.nowO, HS.nowN.2.2.2.2, ⟨(HS.mu 5 rfl), (HS.mu 6 rfl), trivial⟩⟩, ?_⟩
     obtain ⟨A88, c89, rfl⟩ := row_slice (HS.mu 2 rfl)
     refine WD.storeS 14 HS 0 rfl rfl rfl rfl (oneL rfl) (by kernel_rfl) (ble_ rfl) (cs' := #[(.slice A88 t63.2.1.f0.length c89), vi t63.2.1.f1]) (by kernel_rfl) (fun w87 HS => ?_)
     dsimp only [List.set] at HS
     refine ⟨⟨HS.nowO, HS.nowN.2.2.2.2, ⟨(HS.mu 5 rfl), (HS.mu 6 rfl), trivial⟩⟩, ?_⟩
     refine dp_ 15 (fun _ => Run.assign rfl rfl) ?_
     exact dd_ (wv_ iq X62 ⟨b78, b80, t63, A83, c84, A85, c86, A88, c89, I76, I74, I72, rfl, H, HS⟩) ))
   · have HT_ := True.intro
     exact by (
     refine WDo.alloc (v := .agg #[sn, vi 0]) (cs := #[sn, vi 0]) 12 (w_none rfl) HS rfl (by kernel_rfl) rfl (fun b90 w91 hb90 HS => ?_)
     refine ⟨⟨HS.nowO, HS.nowN.2.2.2.2, ⟨(HS.mu 4 rfl), (HS.mu 5 rfl), trivial⟩⟩, ?_⟩
     refine WD.alloc (v := .agg #[sn, sn]) (cs := #[sn, sn]) 11 (w_none rfl) HS rfl (by kernel_rfl) rfl (fun b92 w93 hb92 HS => ?_)
     refine ⟨⟨HS.nowO, HS.nowN.2.2.2.2, ⟨(HS.mu 5 rfl), (HS.mu 6 rfl), trivial⟩⟩, ?_⟩
     obtain ⟨A95, c96, rfl⟩ := row_slice (HS.mu 4 rfl)
     obtain ⟨A97, c98, rfl⟩ := row_slice (HS.mu 3 rfl)
     refine WD.storeS 13 HS 0 rfl rfl rfl rfl (oneL rfl) (by kernel_rfl) (ble_ rfl) (cs' := #[(.slice A95 t63.1.f0.length c96), (.slice A97 t63.1.f1.length c98)]) (by kernel_rfl) (fun w94 HS => ?_)
     dsimp only [List.set] at HS
     exact by (
     refine ⟨⟨HS.nowO, HS.nowN.2.2.2.2, ⟨(HS.mu 5 rfl), (HS.mu 6 rfl), trivial⟩⟩, ?_⟩
     obtain ⟨A100, c101, rfl⟩ := row_slice (HS.mu 2 rfl)
     refine WD.storeS 14 HS 1 rfl rfl rfl rfl (oneL rfl) (by kernel_rfl) (ble_ rfl) (cs' := #[(.slice A100 t63.2.1.f0.length c101), vi t63.2.1.f1]) (by kernel_rfl) (fun w99 HS => ?_)
     dsimp only [List.set] at HS
     refine ⟨⟨HS.nowO, HS.nowN.2.2.2.2, ⟨(HS.mu 5 rfl), (HS.mu 6 rfl), trivial⟩⟩, ?_⟩
     refine dp_ 15 (fun _ => Run.assign rfl rfl) ?_
     exact dd_ (wv_ iq X62 ⟨b92, b90, t63, A95, c96, A97, c98, A100, c101, I76, I74, I72, rfl, H, (St.front (St.front (St.front (St.front (St.front (St.front (St.front HS 6 rfl) 6 rfl) 6 rfl) 6 rfl) 6 rfl) 5 rfl) 6 rfl)⟩) )))))
 · have HT_ := True.intro
   exact by (
   refine WDo.alloc (v := .agg #[sn, sn]) (cs := #[sn, sn]) 11 (w_none rfl) HS rfl (by kernel_rfl) rfl (fun b102 w103 hb102 HS => ?_)
   refine ⟨⟨HS.nowO, HS.nowN.2, ⟨(HS.mu 1 rfl), (HS.mu 2 rfl), trivial⟩⟩, ?_⟩
   refine two__ 6 12 ?_ ?_
   · have HT_ := True.intro
     obtain ⟨t104, ha105, H⟩ := bind_some H
     refine dco_ 6 (w_none rfl) func45 (impl_AddCell.runs k (⟨t10.1.f0, t10.1.f1⟩ : S58) A13 c14 A17 c18 (t10.2.1.getD (Int.tmod (t40.getD (0 : Int).toNat 0) (t10.2.1.length : Int)).toNat o67) A58 c59 (⟨t10.2.2.f0, t10.2.2.f1⟩ : S62) A25 c26 A29 c30 t104.1 t104.2.1 t104.2.2 _ (HS.getN 3 rfl) le15 (HS.getN 4 rfl) le19 (HS.getN 0 rfl) le61 (HS.getN 6 rfl) le27 (HS.getN 7 rfl) le31 ha105) ?_
     clear ha105
     rintro _ w106 ⟨v107, bl108, v109, bl110, v111, bl112, rfl, hO_, hb⟩
     exact by (
     replace HS := HS.got hb hO_
     dsimp only [List.cons_append, List.nil_append] at HS
     clear hO_
     obtain ⟨I113, bl114, HS⟩ := HS.unseal (sz := 1) rfl
     replace HS := HS.freezeN 1 (p := (rF kI t104.1.f0 I113)) rfl (fun _ hP_ _ => RepsB.reps hP_)
     dsimp only [List.eraseIdx] at HS
     replace HS := HS.front 1 rfl
     dsimp only [List.eraseIdx] at HS
     exact by (
     obtain ⟨I115, bl116, HS⟩ := HS.unseal (sz := 1) rfl
     replace HS := HS.freezeN 1 (p := (rF kS62 t104.1.f1 I115)) rfl (fun _ hP_ _ => RepsB.reps hP_)
     dsimp only [List.eraseIdx] at HS
     replace HS := HS.front 2 rfl
     dsimp only [List.eraseIdx] at HS
     obtain ⟨I117, bl118, HS⟩ := HS.unseal (sz := 1) rfl
     replace HS := HS.freezeN 1 (p := (rF kI t104.2.1.f0 I117)) rfl (fun _ hP_ _ => RepsB.reps hP_)
     dsimp only [List.eraseIdx] at HS
     exact by (
     refine ⟨⟨HS.nowO, HS.nowN.2.2.2.2, ⟨(HS.mu 4 rfl), (HS.mu 5 rfl), trivial⟩⟩, _, rfl, ?_⟩
     clear hb
     refine dm_ 7 ?_
     refine dp_ 8 (fun _ => Run.extract rfl rfl rfl) ?_
     refine dp_ 9 (fun _ => Run.extract rfl rfl rfl) ?_
     refine dp_ 10 (fun _ => Run.extract rfl rfl rfl) ?_
     refine WD.alloc (v := .agg #[sn, vi 0]) (cs := #[sn, vi 0]) 12 (w_none rfl) HS rfl (by kernel_rfl) rfl (fun b119 w120 hb119 HS => ?_)
     refine ⟨⟨HS.nowO, HS.nowN.2.2.2.2, ⟨(HS.mu 5 rfl), (HS.mu 6 rfl), trivial⟩⟩, ?_⟩
     exact by (
     obtain ⟨A122, c123, rfl⟩ := row_slice (HS.mu 3 rfl)
     obtain ⟨A124, c125, rfl⟩ := row_slice (HS.mu 2 rfl)
     refine WD.storeS 13 HS 4 rfl rfl rfl rfl (oneL rfl) (by kernel_rfl) (ble_ rfl) (cs' := #[(.slice A122 t104.1.f0.length c123), (.slice A124 t104.1.f1.length c125)]) (by kernel_rfl) (fun w121 HS => ?_)
     dsimp only [List.set] at HS
     refine ⟨⟨HS.nowO, HS.nowN.2.2.2.2, ⟨(HS.mu 5 rfl), (HS.mu 6 rfl), trivial⟩⟩, ?_⟩
     obtain ⟨A127, c128, rfl⟩ := row_slice (HS.mu 1 rfl)
     refine WD.storeS 14 HS 0 rfl rfl rfl rfl (oneL rfl) (by kernel_rfl) (ble_ rfl) (cs' := #[(.slice A127 t104.2.1.f0.length c128), vi t104.2.1.f1]) (by kernel_rfl) (fun w126 HS => ?_)
     dsimp only [List.set] at HS
     exact by (
     refine ⟨⟨HS.nowO, HS.nowN.2.2.2.2, ⟨(HS.mu 5 rfl), (HS.mu 6 rfl), trivial⟩⟩, ?_⟩
     refine dp_ 15 (fun _ => Run.assign rfl rfl) ?_
     exact dd_ (wv_ iq X62 ⟨b102, b119, t104, A122, c123, A124, c125, A127, c128, I117, I115, I113, rfl, H, (St.front (St.front (St.front (St.front (St.front (St.front (St.front HS 6 rfl) 6 rfl) 5 rfl) 5 rfl) 5 rfl) 6 rfl) 6 rfl)⟩) )))))
   · have HT_ := True.intro
     refine WDo.alloc (v := .agg #[sn, vi 0]) (cs := #[sn, vi 0]) 12 (w_none rfl) HS rfl (by kernel_rfl) rfl (fun b129 w130 hb129 HS => ?_)
     refine ⟨⟨HS.nowO, HS.nowN.2, ⟨(HS.mu 2 rfl), (HS.mu 3 rfl), trivial⟩⟩, ?_⟩
     obtain ⟨t131, ha132, H⟩ := bind_some H
     refine dc_ 6 (w_none rfl) func45 (impl_AddCell.runs k (⟨t10.1.f0, t10.1.f1⟩ : S58) A13 c14 A17 c18 (t10.2.1.getD (Int.tmod (t40.getD (0 : Int).toNat 0) (t10.2.1.length : Int)).toNat o67) A58 c59 (⟨t10.2.2.f0, t10.2.2.f1⟩ : S62) A25 c26 A29 c30 t131.1 t131.2.1 t131.2.2 _ (HS.getN 3 rfl) le15 (HS.getN 4 rfl) le19 (HS.getN 0 rfl) le61 (HS.getN 6 rfl) le27 (HS.getN 7 rfl) le31 ha132) ?_
     exact by (
     clear ha132
     rintro _ w133 ⟨v134, bl135, v136, bl137, v138, bl139, rfl, hO_, hb⟩
     replace HS := HS.got hb hO_
     dsimp only [List.cons_append, List.nil_append] at HS
     clear hO_
     obtain ⟨I140, bl141, HS⟩ := HS.unseal (sz := 1) rfl
     replace HS := HS.freezeN 1 (p := (rF kI t131.1.f0 I140)) rfl (fun _ hP_ _ => RepsB.reps hP_)
     dsimp only [List.eraseIdx] at HS
     exact by (
     replace HS := HS.front 1 rfl
     dsimp only [List.eraseIdx] at HS
     obtain ⟨I142, bl143, HS⟩ := HS.unseal (sz := 1) rfl
     replace HS := HS.freezeN 1 (p := (rF kS62 t131.1.f1 I142)) rfl (fun _ hP_ _ => RepsB.reps hP_)
     dsimp only [List.eraseIdx] at HS
     replace HS := HS.front 2 rfl
     dsimp only [List.eraseIdx] at HS
     obtain ⟨I144, bl145, HS⟩ := HS.unseal (sz := 1) rfl
     exact by (
     replace HS := HS.freezeN 1 (p := (rF kI t131.2.1.f0 I144)) rfl (fun _ hP_ _ => RepsB.reps hP_)
     dsimp only [List.eraseIdx] at HS
     refine ⟨⟨HS.nowO, HS.nowN.2.2.2.2, ⟨(HS.mu 5 rfl), (HS.mu 6 rfl), trivial⟩⟩, _, rfl, ?_⟩
     clear hb
     refine dm_ 7 ?_
     refine dp_ 8 (fun _ => Run.extract rfl rfl rfl) ?_
     refine dp_ 9 (fun _ => Run.extract rfl rfl rfl) ?_
     refine dp_ 10 (fun _ => Run.extract rfl rfl rfl) ?_
     exact by (
     obtain ⟨A147, c148, rfl⟩ := row_slice (HS.mu 2 rfl)
     obtain ⟨A149, c150, rfl⟩ := row_slice (HS.mu 1 rfl)
     refine WD.storeS 13 HS 4 rfl rfl rfl rfl (oneL rfl) (by kernel_rfl) (ble_ rfl) (cs' := #[(.slice A147 t131.1.f0.length c148), (.slice A149 t131.1.f1.length c150)]) (by kernel_rfl) (fun w146 HS => ?_)
     dsimp only [List.set] at HS
     refine ⟨⟨HS.nowO, HS.nowN.2.2.2.2, ⟨(HS.mu 5 rfl), (HS.mu 6 rfl), trivial⟩⟩, ?_⟩
     obtain ⟨A152, c153, rfl⟩ := row_slice (HS.mu 0 rfl)
     refine WD.storeS 14 HS 3 rfl rfl rfl rfl (oneL rfl) (by kernel_rfl) (ble_ rfl) (cs' := #[(.slice A152 t131.2.1.f0.length c153), vi t131.2.1.f1]) (by kernel_rfl) (fun w151 HS => ?_)
     dsimp only [List.set] at HS
     exact by (
     refine ⟨⟨HS.nowO, HS.nowN.2.2.2.2, ⟨(HS.mu 5 rfl), (HS.mu 6 rfl), trivial⟩⟩, ?_⟩
     refine dp_ 15 (fun _ => Run.assign rfl rfl) ?_
     exact dd_ (wv_ iq X62 ⟨b102, b129, t131, A147, c148, A149, c150, A152, c153, I144, I142, I140, rfl, H, (St.front (St.front (St.front (St.front (St.front (St.front (St.front HS 6 rfl) 6 rfl) 4 rfl) 4 rfl) 4 rfl) 6 rfl) 6 rfl)⟩) ))))))
 · have HT_ := True.intro
   refine WDo.alloc (v := .agg #[sn, vi 0]) (cs := #[sn, vi 0]) 12 (w_none rfl) HS rfl (by kernel_rfl) rfl (fun b154 w155 hb154 HS => ?_)
   refine ⟨⟨HS.nowO, HS.nowN.2, ⟨(HS.mu 1 rfl), (HS.mu 2 rfl), trivial⟩⟩, ?_⟩
   refine two__ 6 11 ?_ ?_
   · have HT_ := True.intro
     exact by (
     obtain ⟨t156, ha157, H⟩ := bind_some H
     refine dco_ 6 (w_none rfl) func45 (impl_AddCell.runs k (⟨t10.1.f0, t10.1.f1⟩ : S58) A13 c14 A17 c18 (t10.2.1.getD (Int.tmod (t40.getD (0 : Int).toNat 0) (t10.2.1.length : Int)).toNat o67) A58 c59 (⟨t10.2.2.f0, t10.2.2.f1⟩ : S62) A25 c26 A29 c30 t156.1 t156.2.1 t156.2.2 _ (HS.getN 3 rfl) le15 (HS.getN 4 rfl) le19 (HS.getN 0 rfl) le61 (HS.getN 6 rfl) le27 (HS.getN 7 rfl) le31 ha157) ?_
     clear ha157
     rintro _ w158 ⟨v159, bl160, v161, bl162, v163, bl164, rfl, hO_, hb⟩
     replace HS := HS.got hb hO_
     dsimp only [List.cons_append, List.nil_append] at HS
     clear hO_
     obtain ⟨I165, bl166, HS⟩ := HS.unseal (sz := 1) rfl
     exact by (
     replace HS := HS.freezeN 1 (p := (rF kI t156.1.f0 I165)) rfl (fun _ hP_ _ => RepsB.reps hP_)
     dsimp only [List.eraseIdx] at HS
     replace HS := HS.front 1 rfl
     dsimp only [List.eraseIdx] at HS
     obtain ⟨I167, bl168, HS⟩ := HS.unseal (sz := 1) rfl
     replace HS := HS.freezeN 1 (p := (rF kS62 t156.1.f1 I167)) rfl (fun _ hP_ _ => RepsB.reps hP_)
     dsimp only [List.eraseIdx] at HS
     replace HS := HS.front 2 rfl
     exact by (
     dsimp only [List.eraseIdx] at HS
     obtain ⟨I169, bl170, HS⟩ := HS.unseal (sz := 1) rfl
     replace HS := HS.freezeN 1 (p := (rF kI t156.2.1.f0 I169)) rfl (fun _ hP_ _ => RepsB.reps hP_)
     dsimp only [List.eraseIdx] at HS
     refine ⟨⟨HS.nowO, HS.nowN.2.2.2.2, ⟨(HS.mu 4 rfl), (HS.mu 5 rfl), trivial⟩⟩, _, rfl, ?_⟩
     clear hb
     refine dm_ 7 ?_
     refine dp_ 8 (fun _ => Run.extract rfl rfl rfl) ?_
     exact by (
     refine dp_ 9 (fun _ => Run.extract rfl rfl rfl) ?_
     refine dp_ 10 (fun _ => Run.extract rfl rfl rfl) ?_
     refine WD.alloc (v := .agg #[sn, sn]) (cs := #[sn, sn]) 11 (w_none rfl) HS rfl (by kernel_rfl) rfl (fun b171 w172 hb171 HS => ?_)
     refine ⟨⟨HS.nowO, HS.nowN.2.2.2.2, ⟨(HS.mu 5 rfl), (HS.mu 6 rfl), trivial⟩⟩, ?_⟩
     obtain ⟨A174, c175, rfl⟩ := row_slice (HS.mu 3 rfl)
     obtain ⟨A176, c177, rfl⟩ := row_slice (HS.mu 2 rfl)
     refine WD.storeS 13 HS 0 rfl rfl rfl rfl (oneL rfl) (by kernel_rfl) (ble_ rfl) (cs' := #[(.slice A174 t156.1.f0.length c175), (.slice A176 t156.1.f1.length c177)]) (by kernel_rfl) (fun w173 HS => ?_)
     dsimp only [List.set] at HS
     exact by (
     refine ⟨⟨HS.nowO, HS.nowN.2.2.2.2, ⟨(HS.mu 5 rfl), (HS.mu 6 rfl), trivial⟩⟩, ?_⟩
     obtain ⟨A179, c180, rfl⟩ := row_slice (HS.mu 1 rfl)
     refine WD.storeS 14 HS 4 rfl rfl rfl rfl (oneL rfl) (by kernel_rfl) (ble_ rfl) (cs' := #[(.slice A179 t156.2.1.f0.length c180), vi t156.2.1.f1]) (by kernel_rfl) (fun w178 HS => ?_)
     dsimp only [List.set] at HS
     refine ⟨⟨HS.nowO, HS.nowN.2.2.2.2, ⟨(HS.mu 5 rfl), (HS.mu 6 rfl), trivial⟩⟩, ?_⟩
     refine dp_ 15 (fun _ => Run.assign rfl rfl) ?_
     exact dd_ (wv_ iq X62 ⟨b171, b154, t156, A174, c175, A176, c177, A179, c180, I169, I167, I165, rfl, H, (St.front (St.front (St.front (St.front (St.front (St.front (St.front HS 6 rfl) 6 rfl) 5 rfl) 5 rfl) 5 rfl) 5 rfl) 6 rfl)⟩) )))))
   · have HT_ := True.intro
     exact by (
     refine WDo.alloc (v := .agg #[sn, sn]) (cs := #[sn, sn]) 11 (w_none rfl) HS rfl (by kernel_rfl) rfl (fun b181 w182 hb181 HS => ?_)
     refine ⟨⟨HS.nowO, HS.nowN.2, ⟨(HS.mu 2 rfl), (HS.mu 3 rfl), trivial⟩⟩, ?_⟩
     obtain ⟨t183, ha184, H⟩ := bind_some H
     refine dc_ 6 (w_none rfl) func45 (impl_AddCell.runs k (⟨t10.1.f0, t10.1.f1⟩ : S58) A13 c14 A17 c18 (t10.2.1.getD (Int.tmod (t40.getD (0 : Int).toNat 0) (t10.2.1.length : Int)).toNat o67) A58 c59 (⟨t10.2.2.f0, t10.2.2.f1⟩ : S62) A25 c26 A29 c30 t183.1 t183.2.1 t183.2.2 _ (HS.getN 3 rfl) le15 (HS.getN 4 rfl) le19 (HS.getN 0 rfl) le61 (HS.getN 6 rfl) le27 (HS.getN 7 rfl) le31 ha184) ?_
     clear ha184
     rintro _ w185 ⟨v186, bl187, v188, bl189, v190, bl191, rfl, hO_, hb⟩
     replace HS := HS.got hb hO_
     dsimp only [List.cons_append, List.nil_append] at HS
     exact by (
     clear hO_
     obtain ⟨I192, bl193, HS⟩ := HS.unseal (sz := 1) rfl
     replace HS := HS.freezeN 1 (p := (rF kI t183.1.f0 I192)) rfl (fun _ hP_ _ => RepsB.reps hP_)
     dsimp only [List.eraseIdx] at HS
     replace HS := HS.front 1 rfl
     dsimp only [List.eraseIdx] at HS
     obtain ⟨I194, bl195, HS⟩ := HS.unseal (sz := 1) rfl
     replace HS := HS.freezeN 1 (p := (rF kS62 t183.1.f1 I194)) rfl (fun _ hP_ _ => RepsB.reps hP_)
     exact by (
     dsimp only [List.eraseIdx] at HS
     replace HS := HS.front 2 rfl
     dsimp only [List.eraseIdx] at HS
     obtain ⟨I196, bl197, HS⟩ := HS.unseal (sz := 1) rfl
     replace HS := HS.freezeN 1 (p := (rF kI t183.2.1.f0 I196)) rfl (fun _ hP_ _ => RepsB.reps hP_)
     dsimp only [List.eraseIdx] at HS
     refine ⟨⟨HS.nowO, HS.nowN.2.2.2.2, ⟨(HS.mu 5 rfl), (HS.mu 6 rfl), trivial⟩⟩, _, rfl, ?_⟩
     clear hb
     exact by (
     refine dm_ 7 ?_
     refine dp_ 8 (fun _ => Run.extract rfl rfl rfl) ?_
     refine dp_ 9 (fun _ => Run.extract rfl rfl rfl) ?_
     refine dp_ 10 (fun _ => Run.extract rfl rfl rfl) ?_
     obtain ⟨A199, c200, rfl⟩ := row_slice (HS.mu 2 rfl)
     obtain ⟨A201, c202, rfl⟩ := row_slice (HS.mu 1 rfl)
     refine WD.storeS 13 HS 3 rfl rfl rfl rfl (oneL rfl) (by kernel_rfl) (ble_ rfl) (cs' := #[(.slice A199 t183.1.f0.length c200), (.slice A201 t183.1.f1.length c202)]) (by kernel_rfl) (fun w198 HS => ?_)
     dsimp only [List.set] at HS
     exact by (
     refine ⟨⟨HS.nowO, HS.nowN.2.2.2.2, ⟨(HS.mu 5 rfl), (HS.mu 6 rfl), trivial⟩⟩, ?_⟩
     obtain ⟨A204, c205, rfl⟩ := row_slice (HS.mu 0 rfl)
     refine WD.storeS 14 HS 4 rfl rfl rfl rfl (oneL rfl) (by kernel_rfl) (ble_ rfl) (cs' := #[(.slice A204 t183.2.1.f0.length c205), vi t183.2.1.f1]) (by kernel_rfl) (fun w203 HS => ?_)
     dsimp only [List.set] at HS
     refine ⟨⟨HS.nowO, HS.nowN.2.2.2.2, ⟨(HS.mu 5 rfl), (HS.mu 6 rfl), trivial⟩⟩, ?_⟩
     refine dp_ 15 (fun _ => Run.assign rfl rfl) ?_
     exact dd_ (wv_ iq X62 ⟨b181, b154, t183, A199, c200, A201, c202, A204, c205, I196, I194, I192, rfl, H, (St.front (St.front (St.front (St.front (St.front (St.front (St.front HS 6 rfl) 6 rfl) 4 rfl) 4 rfl) 4 rfl) 5 rfl) 6 rfl)⟩) )))))))))))))
def okT5 (x : Int) : Prop := (Lit.int .u8 x).wf = true
theorem opensT5 : XOpen.Opens prog 5 kU okT5 := XOpen.opens_int underlying5
def okT48 (xs : List Int) : Prop := xs.length ≤ 9223372036854775807 ∧ ∀ x ∈ xs, okT5 x
theorem opensT48 : XOpen.Opens prog 48 kS5 okT48 := XOpen.opens_slice underlying48 (by kernel_rfl) opensT5
def laws_FnBlocks.Pure : Prop := ∀ (l0 : List Int), okT48 l0 → ∃ k, laws_FnBlocks.g k l0 = some true
end Go.Proofs.Ytlpginalgdbopaa.PFnBlocks
