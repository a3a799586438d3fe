/- Functions that the statement reaches, as Lean functions, and the proof that a call of each comes to just its answer; written by this claim's own program. No conditions. -/
import Derived.Test.YtacbkcofcbglhaaGreatGFnExactCellOk1
namespace Go.Proofs.YtacbkcofcbglhaaGreat.PFnExactCellOk
open Go.RowKit Go.Proofs.YtacbkcofcbglhaaGreatW.PrintWords Go.Proofs.YtacbkcofcbglhaaGreatW.PrintLast Go.Proofs.YtacbkcofcbglhaaGreatW.PrintMore Go.Proofs.YtacbkcofcbglhaaGreat.XW Go.Proofs.YtacbkcofcbglhaaGreat.XOp Go.Proofs.YtacbkcofcbglhaaGreat.XSt Go.Proofs.YtacbkcofcbglhaaGreat.XDraw
set_option linter.unusedVariables false
set_option linter.unusedSimpArgs false
set_option maxHeartbeats 4000000
set_option maxRecDepth 20000
def laws_toLayer.g (k : Nat) (x0 : S78) : Option S86 := ((laws_toIntS.f k x0.f0).bind fun t14 => ((laws_toMatrix.g k x0.f1).bind fun t33 => ((laws_toMatrix.g k x0.f2).bind fun t54 => ((laws_toMatrix.g k x0.f3).bind fun t75 => ((laws_toMatrix.g k x0.f4).bind fun t96 => ((laws_toIntS.f k x0.f5).bind fun t113 => ((laws_toMatrix.g k x0.f6).bind fun t132 => ((laws_toMatrix.g k x0.f7).bind fun t153 => (some (⟨t14, (⟨t33.f0, t33.f1, t33.f2, t33.f3, t33.f4⟩ : S44), (⟨t54.f0, t54.f1, t54.f2, t54.f3, t54.f4⟩ : S44), (⟨t75.f0, t75.f1, t75.f2, t75.f3, t75.f4⟩ : S44), (⟨t96.f0, t96.f1, t96.f2, t96.f3, t96.f4⟩ : S44), t113, (⟨t132.f0, t132.f1, t132.f2, t132.f3, t132.f4⟩ : S44), (⟨t153.f0, t153.f1, t153.f2, t153.f3, t153.f4⟩ : S44)⟩ : S86))))))))))
theorem laws_toLayer.runs (k : Nat) (cs0 : List Value) (x0 : S78) (r : S86) (w : World) (hk0 : k78.K w x0 cs0) (H : laws_toLayer.g k x0 = some r) :
    Calls Tryz.prog 51 #[.agg cs0.toArray] w fun e w' => ∃ (cs0_ : List Value), e = .returned (.agg cs0_.toArray) ∧ Foot (fun W => k86.K W r cs0_) w' (fun k_ => w.heap.size ≤ k_) ∧ Below w.heap.size w w' := by
  have el0 : cs0.length = 32 := k78.K_len hk0
  unfold laws_toLayer.g at H
  have HS : St (fun _ => True) w w [] [(fun W => k78.K W x0 cs0)] [] := St.start (foot_cons (foot_K h78 hk0) foot_nil)
  refine cw_ Tryz.func51 fun R_ hR_ => ?_
  refine sr_ fun _ hK1 => ?_
  refine bo_ HS (fun b2 w3 hb2 HS => ?_)
  refine WL.alloc HS (v := .agg #[.slice none 0 0, .int .i64 0, .slice none 0 0, .slice none 0 0, .int .i64 0, .int .i64 0, .int .i64 0, .slice none 0 0, .slice none 0 0, .int .i64 0, .int .i64 0, .int .i64 0, .slice none 0 0, .slice none 0 0, .int .i64 0, .int .i64 0, .int .i64 0, .slice none 0 0, .slice none 0 0, .int .i64 0, .int .i64 0, .slice none 0 0, .int .i64 0, .slice none 0 0, .slice none 0 0, .int .i64 0, .int .i64 0, .int .i64 0, .slice none 0 0, .slice none 0 0, .int .i64 0, .int .i64 0]) (cs := #[.slice none 0 0, .int .i64 0, .slice none 0 0, .slice none 0 0, .int .i64 0, .int .i64 0, .int .i64 0, .slice none 0 0, .slice none 0 0, .int .i64 0, .int .i64 0, .int .i64 0, .slice none 0 0, .slice none 0 0, .int .i64 0, .int .i64 0, .int .i64 0, .slice none 0 0, .slice none 0 0, .int .i64 0, .int .i64 0, .slice none 0 0, .int .i64 0, .slice none 0 0, .slice none 0 0, .int .i64 0, .int .i64 0, .int .i64 0, .slice none 0 0, .slice none 0 0, .int .i64 0, .int .i64 0]) rfl rfl (by decide) rfl (by kernel_rfl) rfl (fun b4 w5 hb4 HS => ?_)
  refine dn_ hK1 ?_
  refine sr_ fun _ hK6 => ?_
  refine WL.alloc HS (v := .agg #[.slice none 0 0, .int .i64 0, .slice none 0 0, .slice none 0 0, .int .i64 0, .int .i64 0, .int .i64 0, .slice none 0 0, .slice none 0 0, .int .i64 0, .int .i64 0, .int .i64 0, .slice none 0 0, .slice none 0 0, .int .i64 0, .int .i64 0, .int .i64 0, .slice none 0 0, .slice none 0 0, .int .i64 0, .int .i64 0, .slice none 0 0, .int .i64 0, .slice none 0 0, .slice none 0 0, .int .i64 0, .int .i64 0, .int .i64 0, .slice none 0 0, .slice none 0 0, .int .i64 0, .int .i64 0]) (cs := #[.slice none 0 0, .int .i64 0, .slice none 0 0, .slice none 0 0, .int .i64 0, .int .i64 0, .int .i64 0, .slice none 0 0, .slice none 0 0, .int .i64 0, .int .i64 0, .int .i64 0, .slice none 0 0, .slice none 0 0, .int .i64 0, .int .i64 0, .int .i64 0, .slice none 0 0, .slice none 0 0, .int .i64 0, .int .i64 0, .slice none 0 0, .int .i64 0, .slice none 0 0, .slice none 0 0, .int .i64 0, .int .i64 0, .int .i64 0, .slice none 0 0, .slice none 0 0, .int .i64 0, .int .i64 0]) rfl rfl (by decide) rfl (by kernel_rfl) rfl (fun b7 w8 hb7 HS => ?_)
  refine dn_ hK6 ?_
  refine sr_ fun _ hK9 => ?_
  refine v_ (fa_ Tryz.underlying78) ?_
  obtain ⟨A10, c11, hc12, le13, HS⟩ := HS.sO 0 rfl at78_0
  refine v_ (lb_ (HS.mu 2 rfl) Tryz.underlying28 hc12) ?_
  obtain ⟨t14, ha15, H⟩ := bind_some H
  refine c_ Tryz.func25 (laws_toIntS.calls k A10 c11 x0.f0 t14 _ (HS.getO 0 rfl) le13 ha15) ?_
  rintro _ w16 ⟨v17, rfl, h18, hb⟩
  obtain ⟨A19, c20, rfl, le21, hf22⟩ := res_R h18
  replace HS := HS.newNs hb (foot_cons hf22 foot_nil)
  refine ⟨_, rfl, ?_⟩
  clear hb
  refine v_ (fa_ Tryz.underlying86) ?_
  refine WL.store HS 0 rfl rfl rfl rfl rfl rfl rfl (by kernel_rfl) (Nat.le_of_ble_eq_true rfl) (cs' := #[.slice A19 t14.length c20, .int .i64 0, .slice none 0 0, .slice none 0 0, .int .i64 0, .int .i64 0, .int .i64 0, .slice none 0 0, .slice none 0 0, .int .i64 0, .int .i64 0, .int .i64 0, .slice none 0 0, .slice none 0 0, .int .i64 0, .int .i64 0, .int .i64 0, .slice none 0 0, .slice none 0 0, .int .i64 0, .int .i64 0, .slice none 0 0, .int .i64 0, .slice none 0 0, .slice none 0 0, .int .i64 0, .int .i64 0, .int .i64 0, .slice none 0 0, .slice none 0 0, .int .i64 0, .int .i64 0]) (by kernel_rfl) (fun w23 HS => ?_)
  refine dn_ hK9 ?_
  refine sr_ fun _ hK24 => ?_
  refine v_ (fa_ Tryz.underlying78) ?_
  obtain ⟨A25, c26, hc27, le28, HS⟩ := HS.sO 1 rfl at78_2
  obtain ⟨A29, c30, hc31, le32, HS⟩ := HS.sO 2 rfl at78_3
  refine v_ (ls_ (HS.mu 2 rfl) Tryz.underlying30 (part_cons (at78_1 (HS.aO 3 rfl)).int (part_cons hc27 (part_cons hc31 (part_cons (at78_4 (HS.aO 3 rfl)).int (part_cons (at78_5 (HS.aO 3 rfl)).int part_nil)))))) ?_
  obtain ⟨t33, ha34, H⟩ := bind_some H
  refine c_ Tryz.func26 (laws_toMatrix.runs k x0.f1 A25 c26 A29 c30 t33 _ (HS.getO 1 rfl) le28 (HS.getO 0 rfl) le32 ha34) ?_
  rintro _ w35 ⟨A36, c37, A40, c41, rfl, le38, hf39, le42, hf43, hb⟩
  replace HS := HS.newNs hb (foot_cons hf39 (foot_cons hf43 foot_nil))
  refine ⟨_, rfl, ?_⟩
  clear hb
  refine v_ (fa_ Tryz.underlying86) ?_
  refine WL.storeS HS 0 (vs := [.int .i64 t33.f0, .slice A36 t33.f1.length c37, .slice A40 t33.f2.length c41, .int .i64 t33.f3, .int .i64 t33.f4]) rfl rfl rfl rfl rfl rfl (one_cons rfl (one_cons rfl (one_cons rfl (one_cons rfl (one_cons rfl one_nil))))) (by kernel_rfl) (Nat.le_of_ble_eq_true rfl) (cs' := #[.slice A19 t14.length c20, .int .i64 t33.f0, .slice A36 t33.f1.length c37, .slice A40 t33.f2.length c41, .int .i64 t33.f3, .int .i64 t33.f4, .int .i64 0, .slice none 0 0, .slice none 0 0, .int .i64 0, .int .i64 0, .int .i64 0, .slice none 0 0, .slice none 0 0, .int .i64 0, .int .i64 0, .int .i64 0, .slice none 0 0, .slice none 0 0, .int .i64 0, .int .i64 0, .slice none 0 0, .int .i64 0, .slice none 0 0, .slice none 0 0, .int .i64 0, .int .i64 0, .int .i64 0, .slice none 0 0, .slice none 0 0, .int .i64 0, .int .i64 0]) (by kernel_rfl) (fun w44 HS => ?_)
  refine dn_ hK24 ?_
  refine sr_ fun _ hK45 => ?_
  refine v_ (fa_ Tryz.underlying78) ?_
  obtain ⟨A46, c47, hc48, le49, HS⟩ := HS.sO 3 rfl at78_7
  obtain ⟨A50, c51, hc52, le53, HS⟩ := HS.sO 4 rfl at78_8
  refine v_ (ls_ (HS.mu 2 rfl) Tryz.underlying30 (part_cons (at78_6 (HS.aO 5 rfl)).int (part_cons hc48 (part_cons hc52 (part_cons (at78_9 (HS.aO 5 rfl)).int (part_cons (at78_10 (HS.aO 5 rfl)).int part_nil)))))) ?_
  obtain ⟨t54, ha55, H⟩ := bind_some H
  refine c_ Tryz.func26 (laws_toMatrix.runs k x0.f2 A46 c47 A50 c51 t54 _ (HS.getO 1 rfl) le49 (HS.getO 0 rfl) le53 ha55) ?_
  rintro _ w56 ⟨A57, c58, A61, c62, rfl, le59, hf60, le63, hf64, hb⟩
  replace HS := HS.newNs hb (foot_cons hf60 (foot_cons hf64 foot_nil))
  refine ⟨_, rfl, ?_⟩
  clear hb
  refine v_ (fa_ Tryz.underlying86) ?_
  refine WL.storeS HS 0 (vs := [.int .i64 t54.f0, .slice A57 t54.f1.length c58, .slice A61 t54.f2.length c62, .int .i64 t54.f3, .int .i64 t54.f4]) rfl rfl rfl rfl rfl rfl (one_cons rfl (one_cons rfl (one_cons rfl (one_cons rfl (one_cons rfl one_nil))))) (by kernel_rfl) (Nat.le_of_ble_eq_true rfl) (cs' := #[.slice A19 t14.length c20, .int .i64 t33.f0, .slice A36 t33.f1.length c37, .slice A40 t33.f2.length c41, .int .i64 t33.f3, .int .i64 t33.f4, .int .i64 t54.f0, .slice A57 t54.f1.length c58, .slice A61 t54.f2.length c62, .int .i64 t54.f3, .int .i64 t54.f4, .int .i64 0, .slice none 0 0, .slice none 0 0, .int .i64 0, .int .i64 0, .int .i64 0, .slice none 0 0, .slice none 0 0, .int .i64 0, .int .i64 0, .slice none 0 0, .int .i64 0, .slice none 0 0, .slice none 0 0, .int .i64 0, .int .i64 0, .int .i64 0, .slice none 0 0, .slice none 0 0, .int .i64 0, .int .i64 0]) (by kernel_rfl) (fun w65 HS => ?_)
  refine dn_ hK45 ?_
  refine sr_ fun _ hK66 => ?_
  refine v_ (fa_ Tryz.underlying78) ?_
  obtain ⟨A67, c68, hc69, le70, HS⟩ := HS.sO 5 rfl at78_12
  obtain ⟨A71, c72, hc73, le74, HS⟩ := HS.sO 6 rfl at78_13
  refine v_ (ls_ (HS.mu 2 rfl) Tryz.underlying30 (part_cons (at78_11 (HS.aO 7 rfl)).int (part_cons hc69 (part_cons hc73 (part_cons (at78_14 (HS.aO 7 rfl)).int (part_cons (at78_15 (HS.aO 7 rfl)).int part_nil)))))) ?_
  obtain ⟨t75, ha76, H⟩ := bind_some H
  refine c_ Tryz.func26 (laws_toMatrix.runs k x0.f3 A67 c68 A71 c72 t75 _ (HS.getO 1 rfl) le70 (HS.getO 0 rfl) le74 ha76) ?_
  rintro _ w77 ⟨A78, c79, A82, c83, rfl, le80, hf81, le84, hf85, hb⟩
  replace HS := HS.newNs hb (foot_cons hf81 (foot_cons hf85 foot_nil))
  refine ⟨_, rfl, ?_⟩
  clear hb
  refine v_ (fa_ Tryz.underlying86) ?_
  refine WL.storeS HS 0 (vs := [.int .i64 t75.f0, .slice A78 t75.f1.length c79, .slice A82 t75.f2.length c83, .int .i64 t75.f3, .int .i64 t75.f4]) rfl rfl rfl rfl rfl rfl (one_cons rfl (one_cons rfl (one_cons rfl (one_cons rfl (one_cons rfl one_nil))))) (by kernel_rfl) (Nat.le_of_ble_eq_true rfl) (cs' := #[.slice A19 t14.length c20, .int .i64 t33.f0, .slice A36 t33.f1.length c37, .slice A40 t33.f2.length c41, .int .i64 t33.f3, .int .i64 t33.f4, .int .i64 t54.f0, .slice A57 t54.f1.length c58, .slice A61 t54.f2.length c62, .int .i64 t54.f3, .int .i64 t54.f4, .int .i64 t75.f0, .slice A78 t75.f1.length c79, .slice A82 t75.f2.length c83, .int .i64 t75.f3, .int .i64 t75.f4, .int .i64 0, .slice none 0 0, .slice none 0 0, .int .i64 0, .int .i64 0, .slice none 0 0, .int .i64 0, .slice none 0 0, .slice none 0 0, .int .i64 0, .int .i64 0, .int .i64 0, .slice none 0 0, .slice none 0 0, .int .i64 0, .int .i64 0]) (by kernel_rfl) (fun w86 HS => ?_)
  refine dn_ hK66 ?_
  refine sr_ fun _ hK87 => ?_
  refine v_ (fa_ Tryz.underlying78) ?_
  obtain ⟨A88, c89, hc90, le91, HS⟩ := HS.sO 7 rfl at78_17
  obtain ⟨A92, c93, hc94, le95, HS⟩ := HS.sO 8 rfl at78_18
  refine v_ (ls_ (HS.mu 2 rfl) Tryz.underlying30 (part_cons (at78_16 (HS.aO 9 rfl)).int (part_cons hc90 (part_cons hc94 (part_cons (at78_19 (HS.aO 9 rfl)).int (part_cons (at78_20 (HS.aO 9 rfl)).int part_nil)))))) ?_
  obtain ⟨t96, ha97, H⟩ := bind_some H
  refine c_ Tryz.func26 (laws_toMatrix.runs k x0.f4 A88 c89 A92 c93 t96 _ (HS.getO 1 rfl) le91 (HS.getO 0 rfl) le95 ha97) ?_
  rintro _ w98 ⟨A99, c100, A103, c104, rfl, le101, hf102, le105, hf106, hb⟩
  replace HS := HS.newNs hb (foot_cons hf102 (foot_cons hf106 foot_nil))
  refine ⟨_, rfl, ?_⟩
  clear hb
  refine v_ (fa_ Tryz.underlying86) ?_
  refine WL.storeS HS 0 (vs := [.int .i64 t96.f0, .slice A99 t96.f1.length c100, .slice A103 t96.f2.length c104, .int .i64 t96.f3, .int .i64 t96.f4]) rfl rfl rfl rfl rfl rfl (one_cons rfl (one_cons rfl (one_cons rfl (one_cons rfl (one_cons rfl one_nil))))) (by kernel_rfl) (Nat.le_of_ble_eq_true rfl) (cs' := #[.slice A19 t14.length c20, .int .i64 t33.f0, .slice A36 t33.f1.length c37, .slice A40 t33.f2.length c41, .int .i64 t33.f3, .int .i64 t33.f4, .int .i64 t54.f0, .slice A57 t54.f1.length c58, .slice A61 t54.f2.length c62, .int .i64 t54.f3, .int .i64 t54.f4, .int .i64 t75.f0, .slice A78 t75.f1.length c79, .slice A82 t75.f2.length c83, .int .i64 t75.f3, .int .i64 t75.f4, .int .i64 t96.f0, .slice A99 t96.f1.length c100, .slice A103 t96.f2.length c104, .int .i64 t96.f3, .int .i64 t96.f4, .slice none 0 0, .int .i64 0, .slice none 0 0, .slice none 0 0, .int .i64 0, .int .i64 0, .int .i64 0, .slice none 0 0, .slice none 0 0, .int .i64 0, .int .i64 0]) (by kernel_rfl) (fun w107 HS => ?_)
  refine dn_ hK87 ?_
  refine sr_ fun _ hK108 => ?_
  refine v_ (fa_ Tryz.underlying78) ?_
  obtain ⟨A109, c110, hc111, le112, HS⟩ := HS.sO 9 rfl at78_21
  refine v_ (lb_ (HS.mu 2 rfl) Tryz.underlying28 hc111) ?_
  obtain ⟨t113, ha114, H⟩ := bind_some H
  refine c_ Tryz.func25 (laws_toIntS.calls k A109 c110 x0.f5 t113 _ (HS.getO 0 rfl) le112 ha114) ?_
  rintro _ w115 ⟨v116, rfl, h117, hb⟩
  obtain ⟨A118, c119, rfl, le120, hf121⟩ := res_R h117
  replace HS := HS.newNs hb (foot_cons hf121 foot_nil)
  refine ⟨_, rfl, ?_⟩
  clear hb
  refine v_ (fa_ Tryz.underlying86) ?_
  refine WL.store HS 0 rfl rfl rfl rfl rfl rfl rfl (by kernel_rfl) (Nat.le_of_ble_eq_true rfl) (cs' := #[.slice A19 t14.length c20, .int .i64 t33.f0, .slice A36 t33.f1.length c37, .slice A40 t33.f2.length c41, .int .i64 t33.f3, .int .i64 t33.f4, .int .i64 t54.f0, .slice A57 t54.f1.length c58, .slice A61 t54.f2.length c62, .int .i64 t54.f3, .int .i64 t54.f4, .int .i64 t75.f0, .slice A78 t75.f1.length c79, .slice A82 t75.f2.length c83, .int .i64 t75.f3, .int .i64 t75.f4, .int .i64 t96.f0, .slice A99 t96.f1.length c100, .slice A103 t96.f2.length c104, .int .i64 t96.f3, .int .i64 t96.f4, .slice A118 t113.length c119, .int .i64 0, .slice none 0 0, .slice none 0 0, .int .i64 0, .int .i64 0, .int .i64 0, .slice none 0 0, .slice none 0 0, .int .i64 0, .int .i64 0]) (by kernel_rfl) (fun w122 HS => ?_)
  refine dn_ hK108 ?_
  refine sr_ fun _ hK123 => ?_
  refine v_ (fa_ Tryz.underlying78) ?_
  obtain ⟨A124, c125, hc126, le127, HS⟩ := HS.sO 10 rfl at78_23
  obtain ⟨A128, c129, hc130, le131, HS⟩ := HS.sO 11 rfl at78_24
  refine v_ (ls_ (HS.mu 2 rfl) Tryz.underlying30 (part_cons (at78_22 (HS.aO 12 rfl)).int (part_cons hc126 (part_cons hc130 (part_cons (at78_25 (HS.aO 12 rfl)).int (part_cons (at78_26 (HS.aO 12 rfl)).int part_nil)))))) ?_
  obtain ⟨t132, ha133, H⟩ := bind_some H
  refine c_ Tryz.func26 (laws_toMatrix.runs k x0.f6 A124 c125 A128 c129 t132 _ (HS.getO 1 rfl) le127 (HS.getO 0 rfl) le131 ha133) ?_
  rintro _ w134 ⟨A135, c136, A139, c140, rfl, le137, hf138, le141, hf142, hb⟩
  replace HS := HS.newNs hb (foot_cons hf138 (foot_cons hf142 foot_nil))
  refine ⟨_, rfl, ?_⟩
  clear hb
  refine v_ (fa_ Tryz.underlying86) ?_
  refine WL.storeS HS 0 (vs := [.int .i64 t132.f0, .slice A135 t132.f1.length c136, .slice A139 t132.f2.length c140, .int .i64 t132.f3, .int .i64 t132.f4]) rfl rfl rfl rfl rfl rfl (one_cons rfl (one_cons rfl (one_cons rfl (one_cons rfl (one_cons rfl one_nil))))) (by kernel_rfl) (Nat.le_of_ble_eq_true rfl) (cs' := #[.slice A19 t14.length c20, .int .i64 t33.f0, .slice A36 t33.f1.length c37, .slice A40 t33.f2.length c41, .int .i64 t33.f3, .int .i64 t33.f4, .int .i64 t54.f0, .slice A57 t54.f1.length c58, .slice A61 t54.f2.length c62, .int .i64 t54.f3, .int .i64 t54.f4, .int .i64 t75.f0, .slice A78 t75.f1.length c79, .slice A82 t75.f2.length c83, .int .i64 t75.f3, .int .i64 t75.f4, .int .i64 t96.f0, .slice A99 t96.f1.length c100, .slice A103 t96.f2.length c104, .int .i64 t96.f3, .int .i64 t96.f4, .slice A118 t113.length c119, .int .i64 t132.f0, .slice A135 t132.f1.length c136, .slice A139 t132.f2.length c140, .int .i64 t132.f3, .int .i64 t132.f4, .int .i64 0, .slice none 0 0, .slice none 0 0, .int .i64 0, .int .i64 0]) (by kernel_rfl) (fun w143 HS => ?_)
  refine dn_ hK123 ?_
  refine sr_ fun _ hK144 => ?_
  refine v_ (fa_ Tryz.underlying78) ?_
  obtain ⟨A145, c146, hc147, le148, HS⟩ := HS.sO 12 rfl at78_28
  obtain ⟨A149, c150, hc151, le152, HS⟩ := HS.sO 13 rfl at78_29
  refine v_ (ls_ (HS.mu 2 rfl) Tryz.underlying30 (part_cons (at78_27 (HS.aO 14 rfl)).int (part_cons hc147 (part_cons hc151 (part_cons (at78_30 (HS.aO 14 rfl)).int (part_cons (at78_31 (HS.aO 14 rfl)).int part_nil)))))) ?_
  obtain ⟨t153, ha154, H⟩ := bind_some H
  refine c_ Tryz.func26 (laws_toMatrix.runs k x0.f7 A145 c146 A149 c150 t153 _ (HS.getO 1 rfl) le148 (HS.getO 0 rfl) le152 ha154) ?_
  rintro _ w155 ⟨A156, c157, A160, c161, rfl, le158, hf159, le162, hf163, hb⟩
  replace HS := HS.newNs hb (foot_cons hf159 (foot_cons hf163 foot_nil))
  refine ⟨_, rfl, ?_⟩
  clear hb
  refine v_ (fa_ Tryz.underlying86) ?_
  refine WL.storeS HS 0 (vs := [.int .i64 t153.f0, .slice A156 t153.f1.length c157, .slice A160 t153.f2.length c161, .int .i64 t153.f3, .int .i64 t153.f4]) rfl rfl rfl rfl rfl rfl (one_cons rfl (one_cons rfl (one_cons rfl (one_cons rfl (one_cons rfl one_nil))))) (by kernel_rfl) (Nat.le_of_ble_eq_true rfl) (cs' := #[.slice A19 t14.length c20, .int .i64 t33.f0, .slice A36 t33.f1.length c37, .slice A40 t33.f2.length c41, .int .i64 t33.f3, .int .i64 t33.f4, .int .i64 t54.f0, .slice A57 t54.f1.length c58, .slice A61 t54.f2.length c62, .int .i64 t54.f3, .int .i64 t54.f4, .int .i64 t75.f0, .slice A78 t75.f1.length c79, .slice A82 t75.f2.length c83, .int .i64 t75.f3, .int .i64 t75.f4, .int .i64 t96.f0, .slice A99 t96.f1.length c100, .slice A103 t96.f2.length c104, .int .i64 t96.f3, .int .i64 t96.f4, .slice A118 t113.length c119, .int .i64 t132.f0, .slice A135 t132.f1.length c136, .slice A139 t132.f2.length c140, .int .i64 t132.f3, .int .i64 t132.f4, .int .i64 t153.f0, .slice A156 t153.f1.length c157, .slice A160 t153.f2.length c161, .int .i64 t153.f3, .int .i64 t153.f4]) (by kernel_rfl) (fun w164 HS => ?_)
  refine dn_ hK144 ?_
  refine sr_ fun _ hK165 => ?_
  refine v_ (ls_ (HS.mu 0 rfl) Tryz.underlying86 part_all) ?_
  refine WL.storeS HS 1 (vs := [.slice A19 t14.length c20, .int .i64 t33.f0, .slice A36 t33.f1.length c37, .slice A40 t33.f2.length c41, .int .i64 t33.f3, .int .i64 t33.f4, .int .i64 t54.f0, .slice A57 t54.f1.length c58, .slice A61 t54.f2.length c62, .int .i64 t54.f3, .int .i64 t54.f4, .int .i64 t75.f0, .slice A78 t75.f1.length c79, .slice A82 t75.f2.length c83, .int .i64 t75.f3, .int .i64 t75.f4, .int .i64 t96.f0, .slice A99 t96.f1.length c100, .slice A103 t96.f2.length c104, .int .i64 t96.f3, .int .i64 t96.f4, .slice A118 t113.length c119, .int .i64 t132.f0, .slice A135 t132.f1.length c136, .slice A139 t132.f2.length c140, .int .i64 t132.f3, .int .i64 t132.f4, .int .i64 t153.f0, .slice A156 t153.f1.length c157, .slice A160 t153.f2.length c161, .int .i64 t153.f3, .int .i64 t153.f4]) rfl rfl rfl rfl rfl rfl (one_cons rfl (one_cons rfl (one_cons rfl (one_cons rfl (one_cons rfl (one_cons rfl (one_cons rfl (one_cons rfl (one_cons rfl (one_cons rfl (one_cons rfl (one_cons rfl (one_cons rfl (one_cons rfl (one_cons rfl (one_cons rfl (one_cons rfl (one_cons rfl (one_cons rfl (one_cons rfl (one_cons rfl (one_cons rfl (one_cons rfl (one_cons rfl (one_cons rfl (one_cons rfl (one_cons rfl (one_cons rfl (one_cons rfl (one_cons rfl (one_cons rfl (one_cons rfl one_nil)))))))))))))))))))))))))))))))) (by kernel_rfl) (Nat.le_of_ble_eq_true rfl) (cs' := #[.slice A19 t14.length c20, .int .i64 t33.f0, .slice A36 t33.f1.length c37, .slice A40 t33.f2.length c41, .int .i64 t33.f3, .int .i64 t33.f4, .int .i64 t54.f0, .slice A57 t54.f1.length c58, .slice A61 t54.f2.length c62, .int .i64 t54.f3, .int .i64 t54.f4, .int .i64 t75.f0, .slice A78 t75.f1.length c79, .slice A82 t75.f2.length c83, .int .i64 t75.f3, .int .i64 t75.f4, .int .i64 t96.f0, .slice A99 t96.f1.length c100, .slice A103 t96.f2.length c104, .int .i64 t96.f3, .int .i64 t96.f4, .slice A118 t113.length c119, .int .i64 t132.f0, .slice A135 t132.f1.length c136, .slice A139 t132.f2.length c140, .int .i64 t132.f3, .int .i64 t132.f4, .int .i64 t153.f0, .slice A156 t153.f1.length c157, .slice A160 t153.f2.length c161, .int .i64 t153.f3, .int .i64 t153.f4]) (by kernel_rfl) (fun w166 HS => ?_)
  refine dn_ hK165 ?_
  refine WC.ret ?_
  replace HS := HS.deriveN (p := (fun W => k86.K W (⟨t14, (⟨t33.f0, t33.f1, t33.f2, t33.f3, t33.f4⟩ : S44), (⟨t54.f0, t54.f1, t54.f2, t54.f3, t54.f4⟩ : S44), (⟨t75.f0, t75.f1, t75.f2, t75.f3, t75.f4⟩ : S44), (⟨t96.f0, t96.f1, t96.f2, t96.f3, t96.f4⟩ : S44), t113, (⟨t132.f0, t132.f1, t132.f2, t132.f3, t132.f4⟩ : S44), (⟨t153.f0, t153.f1, t153.f2, t153.f3, t153.f4⟩ : S44)⟩ : S86) [.slice A19 t14.length c20, .int .i64 t33.f0, .slice A36 t33.f1.length c37, .slice A40 t33.f2.length c41, .int .i64 t33.f3, .int .i64 t33.f4, .int .i64 t54.f0, .slice A57 t54.f1.length c58, .slice A61 t54.f2.length c62, .int .i64 t54.f3, .int .i64 t54.f4, .int .i64 t75.f0, .slice A78 t75.f1.length c79, .slice A82 t75.f2.length c83, .int .i64 t75.f3, .int .i64 t75.f4, .int .i64 t96.f0, .slice A99 t96.f1.length c100, .slice A103 t96.f2.length c104, .int .i64 t96.f3, .int .i64 t96.f4, .slice A118 t113.length c119, .int .i64 t132.f0, .slice A135 t132.f1.length c136, .slice A139 t132.f2.length c140, .int .i64 t132.f3, .int .i64 t132.f4, .int .i64 t153.f0, .slice A156 t153.f1.length c157, .slice A160 t153.f2.length c161, .int .i64 t153.f3, .int .i64 t153.f4])) (fun W_ hN_ => (k86_mk _ (⟨t14, (⟨t33.f0, t33.f1, t33.f2, t33.f3, t33.f4⟩ : S44), (⟨t54.f0, t54.f1, t54.f2, t54.f3, t54.f4⟩ : S44), (⟨t75.f0, t75.f1, t75.f2, t75.f3, t75.f4⟩ : S44), (⟨t96.f0, t96.f1, t96.f2, t96.f3, t96.f4⟩ : S44), t113, (⟨t132.f0, t132.f1, t132.f2, t132.f3, t132.f4⟩ : S44), (⟨t153.f0, t153.f1, t153.f2, t153.f3, t153.f4⟩ : S44)⟩ : S86) (le21) (AllF.get 13 rfl hN_) (le38) (AllF.get 11 rfl hN_) (le42) (AllF.get 12 rfl hN_) (le59) (AllF.get 9 rfl hN_) (le63) (AllF.get 10 rfl hN_) (le80) (AllF.get 7 rfl hN_) (le84) (AllF.get 8 rfl hN_) (le101) (AllF.get 5 rfl hN_) (le105) (AllF.get 6 rfl hN_) (le120) (AllF.get 4 rfl hN_) (le137) (AllF.get 2 rfl hN_) (le141) (AllF.get 3 rfl hN_) (le158) (AllF.get 0 rfl hN_) (le162) (AllF.get 1 rfl hN_)))
  cases H
  exact fin1 Tryz.f51 rfl ⟨_, rfl, resv_box (HS.mu 1 rfl) Tryz.underlying86 rfl (by kernel_rfl)⟩ hR_ ⟨_, rfl, (foot_fresh (HS.footN 0 rfl)), HS.b⟩
def laws_toLayerS.b0 (l0 : List S78) (rec_ : Int → (List S86) → Option (Int × (List S86))) (k27 : Nat) (i15 : Int) (xs16 : List S86) : Option (Int × (List S86)) := (if i15 < (l0.length : Int) then (if 0 ≤ i15 ∧ i15 < (l0.length : Int) then ((laws_toLayer.g k27 (l0.getD i15.toNat o78)).bind fun t37 => (if 0 ≤ i15 ∧ i15 < ((xs16.length : Nat) : Int) then (rec_ (wrap64 (i15 + 1)) (xs16.set i15.toNat t37)) else none)) else none) else (some (i15, xs16)))
def laws_toLayerS.l0 (l0 : List S78) : Nat → Int → (List S86) → Option (Int × (List S86))
  | 0, _, _ => none
  | k + 1, i15, xs16 => laws_toLayerS.b0 l0 (laws_toLayerS.l0 l0 k) k i15 xs16
def laws_toLayerS.g (k : Nat) (l0 : List S78) : Option (List S86) := (if 0 ≤ (l0.length : Int) ∧ (l0.length : Int) < 4294967296 then ((laws_toLayerS.l0 l0 k 0 (List.replicate (l0.length : Int).toNat o86)).bind (fun o25 => (some o25.2))) else none)
theorem laws_toLayerS.runs (k : Nat) (A0 : Option Addr) (c0 : Nat) (l0 : List S78) (r : List S86) (w : World) (hr0 : k78.C w A0 l0.length l0) (hc0 : l0.length ≤ c0) (H : laws_toLayerS.g k l0 = some r) :
    Calls Tryz.prog 24 #[.slice A0 l0.length c0] w fun e w' => ∃ (A0_ : Option Addr) (c0_ : Nat), e = .returned (.slice A0_ r.length c0_) ∧ r.length ≤ c0_ ∧ Foot (fun W => k86.C W A0_ r.length r) w' (fun k_ => w.heap.size ≤ k_) ∧ Below w.heap.size w w' := by
  unfold laws_toLayerS.g at H
  have HS : St (fun _ => True) w w [] [(fun W => k78.C W A0 l0.length l0)] [] := St.start (foot_cons (foot_C h78 hr0) foot_nil)
  refine cw_ Tryz.func24 fun R_ hR_ => ?_
  refine sr_ fun _ hK1 => ?_
  refine as_ ?_
  refine dn_ hK1 ?_
  refine sr_ fun _ hK2 => ?_
  refine mv_ ?_
  refine ln_ Tryz.underlying27 ?_
  obtain ⟨⟨q3, q4⟩, H⟩ := if_some H
  refine WL.make k86 HS rfl rfl (by decide) rfl rfl rfl (.agg #[.slice none 0 0, .int .i64 0, .slice none 0 0, .slice none 0 0, .int .i64 0, .int .i64 0, .int .i64 0, .slice none 0 0, .slice none 0 0, .int .i64 0, .int .i64 0, .int .i64 0, .slice none 0 0, .slice none 0 0, .int .i64 0, .int .i64 0, .int .i64 0, .slice none 0 0, .slice none 0 0, .int .i64 0, .int .i64 0, .slice none 0 0, .int .i64 0, .slice none 0 0, .slice none 0 0, .int .i64 0, .int .i64 0, .int .i64 0, .slice none 0 0, .slice none 0 0, .int .i64 0, .int .i64 0]) 480 o86 Tryz.underlying43 (by kernel_rfl) rfl (by decide) (by decide) (fun _ => (k86_mk _ o86 (Nat.le_refl _) (Kd.C_nil _ _) (Nat.le_refl _) (Kd.C_nil _ _) (Nat.le_refl _) (Kd.C_nil _ _) (Nat.le_refl _) (Kd.C_nil _ _) (Nat.le_refl _) (Kd.C_nil _ _) (Nat.le_refl _) (Kd.C_nil _ _) (Nat.le_refl _) (Kd.C_nil _ _) (Nat.le_refl _) (Kd.C_nil _ _) (Nat.le_refl _) (Kd.C_nil _ _) (Nat.le_refl _) (Kd.C_nil _ _) (Nat.le_refl _) (Kd.C_nil _ _) (Nat.le_refl _) (Kd.C_nil _ _) (Nat.le_refl _) (Kd.C_nil _ _) (Nat.le_refl _) (Kd.C_nil _ _))) q3 (by omega) (fun v5 w6 I7 hI8 HS => ?_)
  replace HS := HS.deriveN (p := (fun W => Reps (k86.K W) k86.sz (List.replicate (l0.length : Int).toNat o86) I7)) (fun W_ hN_ => hI8 W_)
  refine as_ ?_
  refine dn_ hK2 ?_
  refine WC.seq fun K9 hK9 => ?_
  refine sr_ fun _ hK10 => ?_
  refine as_ ?_
  refine dn_ hK10 ?_
  refine WC.block ?_
  obtain ⟨G11, hG12, o13, H, Ho14⟩ := open_G H
  have X19 : ∀ E_ W_, (∃ (i15 : Int) (xs16 : List S86) (v17 : Value) (I18 : List Value), E_ = [(0, .slice A0 l0.length c0), (3, v17), (4, .int .i64 i15)] ∧ G11 (i15, xs16) = some r ∧ St (fun _ => True) w W_ [rowM w.heap.size 86 32 v17 xs16.length I18] [(fun W => k78.C W A0 l0.length l0)] [(fun W => Reps (k86.K W) k86.sz xs16 I18)]) → ∀ a, Fits a 23 E_ → K9 a W_ := by
    rintro E_ w20 ⟨i15, xs16, v17, I18, rfl, H, HS⟩
    rw [hG12] at H
    (try dsimp only at H)
    refine hK9 _ _ ?_
    refine sr_ fun _ hK21 => ?_
    refine mv_ ?_
    refine as_ ?_
    refine dn_ hK21 ?_
    refine WC.ret ?_
    obtain ⟨A22, c23, rfl⟩ := row_slice (HS.mu 0 rfl)
    have le24 := row_le (HS.mu 0 rfl)
    replace HS := HS.freezeN 0 (p := (fun W => k86.C W A22 (xs16).length (xs16))) rfl (fun W_ hm_ h_ => row_C (by rfl) hm_ (AllF.get 0 rfl h_))
    cases H
    exact fin1 Tryz.f24 rfl rfl hR_ ⟨_, _, rfl, le24, (foot_fresh (HS.footN 0 rfl)), HS.b⟩
  refine WC.loop (fun k_ E_ W_ => ∃ (i15 : Int) (xs16 : List S86) (v17 : Value) (I18 : List Value), E_ = [(0, .slice A0 l0.length c0), (3, v17), (4, .int .i64 i15)] ∧ (∃ o_, laws_toLayerS.l0 l0 k_ i15 xs16 = some o_ ∧ G11 o_ = some r) ∧ St (fun _ => True) w W_ [rowM w.heap.size 86 32 v17 xs16.length I18] [(fun W => k78.C W A0 l0.length l0)] [(fun W => Reps (k86.K W) k86.sz xs16 I18)]) k ⟨0, (List.replicate (l0.length : Int).toNat o86), v5, I7, rfl, ⟨_, H, Ho14⟩, (St.pick HS (fun W_ h_ => ⟨AllF.get 0 rfl h_, trivial⟩) (fun W_ h_ => ⟨AllF.get 0 rfl h_, trivial⟩))⟩ ⟨rfl, rfl, rfl, trivial⟩ ?_
  rintro k_ E_ w26 ⟨i15, xs16, v17, I18, rfl, ⟨o13, H, Ho14⟩, HS⟩
  rcases k_ with _ | k27
  · exact no_ H
  replace H : laws_toLayerS.b0 l0 (laws_toLayerS.l0 l0 k27) k27 i15 xs16 = some o13 := H
  unfold laws_toLayerS.b0 at H
  refine WC.seq fun _ hK28 => ?_
  refine sr_ fun _ hK29 => ?_
  refine mv_ ?_
  refine mv_ ?_
  refine ln_ Tryz.underlying27 ?_
  refine b_ bin_lss ?_
  refine dn_ hK29 ?_
  rcases eti_ H with ⟨c30, H⟩ | ⟨c30, H⟩
  · refine wn_ (dF c30) ?_
    refine WC.exit ?_
    cases H
    exact WQ.via2 (fun _ _ h_ => h_) X19 ⟨i15, xs16, v17, I18, rfl, Ho14, (St.pick HS (fun W_ h_ => ⟨AllF.get 0 rfl h_, trivial⟩) (fun W_ h_ => ⟨AllF.get 0 rfl h_, trivial⟩))⟩ ⟨rfl, rfl, rfl, trivial⟩
  refine wy_ (dT c30) ?_
  refine WC.skip ?_
  refine via_ hK28 ?_
  refine WC.seq fun _ hK31 => ?_
  refine WC.block ?_
  refine rg_ ?_
  refine mv_ ?_
  refine mv_ ?_
  refine mv_ ?_
  refine mv_ ?_
  obtain ⟨⟨q32, q33⟩, H⟩ := if_some H
  obtain ⟨ad34, rfl⟩ := C_open (HS.getO 0 rfl) (by omega)
  refine v_ (ia_ Tryz.underlying27 32 q32 q33) ?_
  obtain ⟨e35, el36, HS⟩ := HS.elO 0 rfl (by decide) o78 i15 q32 q33
  replace HS := HS.deriveO (p := (fun W => k78.K W (l0.getD i15.toNat o78) e35)) (fun W_ hO_ hN_ => (AllF.get 0 rfl hO_).1)
  refine v_ (Run.loadS (cs := e35) rfl rfl Tryz.underlying78 rfl (by rw [el36]; kernel_rfl) (HS.getO 1 rfl).2) ?_
  obtain ⟨t37, ha38, H⟩ := bind_some H
  refine c_ Tryz.func51 (laws_toLayer.runs k27 e35 (l0.getD i15.toNat o78) t37 _ (HS.getO 0 rfl) ha38) ?_
  rintro _ w39 ⟨cs40, rfl, hf41, hb⟩
  replace HS := HS.newNs hb (foot_cons hf41 foot_nil)
  have el42 : cs40.length = 32 := k86.K_len (Foot.now hf41)
  refine ⟨_, rfl, ?_⟩
  clear hb
  obtain ⟨⟨q43, q44⟩, H⟩ := if_some H
  obtain ⟨A45, c46, rfl⟩ := row_slice (HS.mu 0 rfl)
  obtain ⟨ad47, rfl⟩ := row_open (HS.mu 0 rfl) (by omega)
  refine v_ (ia_ Tryz.underlying43 32 q43 q44) ?_
  have hk_ := mul_room q43 q44 32
  refine WL.putEl HS 0 rfl rfl rfl rfl rfl rfl cs40 rfl (Kd.K_one _ (HS.getN 0 rfl)) (by rw [el42]; kernel_rfl) (by first | omega | (rw [el42]; omega) | (simp; omega)) (fun w48 I49 hI50 HS => ?_)
  clear hk_
  replace HS := HS.deriveN (p := (fun W => Reps (k86.K W) k86.sz (xs16.set i15.toNat t37) I49)) (fun W_ hN_ => reps_set hI50 (AllF.get 1 rfl hN_) (AllF.get 0 rfl hN_) (toNat_lt q43 q44))
  replace HS := HS.rowN 0 rfl (show xs16.length = (xs16.set i15.toNat t37).length from (List.length_set ..).symm)
  refine dn_ hK31 ?_
  refine rg_ ?_
  refine mv_ ?_
  refine b_ bin_add64 ?_
  refine as_ ?_
  refine WL.done ?_
  exact WQ.round k27 (fun _ _ h_ => h_) (Nat.lt_succ_self _) ⟨(wrap64 (i15 + 1)), (xs16.set i15.toNat t37), (.slice (some ad47) xs16.length c46), I49, rfl, ⟨_, H, Ho14⟩, (St.pick HS (fun W_ h_ => ⟨AllF.get 2 rfl h_, trivial⟩) (fun W_ h_ => ⟨AllF.get 0 rfl h_, trivial⟩))⟩ ⟨rfl, rfl, rfl, trivial⟩
def laws_toModel.g (k : Nat) (x0 : S34) : Option S47 := ((laws_toMergeS.g k x0.f3).bind fun t20 => ((laws_toIntSS.f k x0.f4).bind fun t33 => ((laws_toLayerS.g k x0.f5).bind fun t48 => ((laws_toIntS.f k x0.f6).bind fun t61 => ((laws_toMatrix.g k x0.f7).bind fun t80 => ((laws_toTurns.g k x0.f8).bind fun t101 => (some (⟨x0.f0, x0.f1, x0.f2, t20, t33, t48, t61, (⟨t80.f0, t80.f1, t80.f2, t80.f3, t80.f4⟩ : S44), (⟨t101.f0, t101.f1⟩ : S45)⟩ : S47))))))))
theorem laws_toModel.runs (k : Nat) (cs0 : List Value) (x0 : S34) (r : S47) (w : World) (hk0 : k34.K w x0 cs0) (H : laws_toModel.g k x0 = some r) :
    Calls Tryz.prog 8 #[.agg cs0.toArray] w fun e w' => ∃ (cs0_ : List Value), e = .returned (.agg cs0_.toArray) ∧ Foot (fun W => k47.K W r cs0_) w' (fun k_ => w.heap.size ≤ k_) ∧ Below w.heap.size w w' := by
  have el0 : cs0.length = 14 := k34.K_len hk0
  unfold laws_toModel.g at H
  have HS : St (fun _ => True) w w [] [(fun W => k34.K W x0 cs0)] [] := St.start (foot_cons (foot_K h34 hk0) foot_nil)
  refine cw_ Tryz.func8 fun R_ hR_ => ?_
  refine sr_ fun _ hK1 => ?_
  refine bo_ HS (fun b2 w3 hb2 HS => ?_)
  refine WL.alloc HS (v := .agg #[.int .i64 0, .int .i64 0, .int .i64 0, .slice none 0 0, .slice none 0 0, .slice none 0 0, .slice none 0 0, .int .i64 0, .slice none 0 0, .slice none 0 0, .int .i64 0, .int .i64 0, .slice none 0 0, .slice none 0 0]) (cs := #[.int .i64 0, .int .i64 0, .int .i64 0, .slice none 0 0, .slice none 0 0, .slice none 0 0, .slice none 0 0, .int .i64 0, .slice none 0 0, .slice none 0 0, .int .i64 0, .int .i64 0, .slice none 0 0, .slice none 0 0]) rfl rfl (by decide) rfl (by kernel_rfl) rfl (fun b4 w5 hb4 HS => ?_)
  refine dn_ hK1 ?_
  refine sr_ fun _ hK6 => ?_
  refine WL.alloc HS (v := .agg #[.int .i64 0, .int .i64 0, .int .i64 0, .slice none 0 0, .slice none 0 0, .slice none 0 0, .slice none 0 0, .int .i64 0, .slice none 0 0, .slice none 0 0, .int .i64 0, .int .i64 0, .slice none 0 0, .slice none 0 0]) (cs := #[.int .i64 0, .int .i64 0, .int .i64 0, .slice none 0 0, .slice none 0 0, .slice none 0 0, .slice none 0 0, .int .i64 0, .slice none 0 0, .slice none 0 0, .int .i64 0, .int .i64 0, .slice none 0 0, .slice none 0 0]) rfl rfl (by decide) rfl (by kernel_rfl) rfl (fun b7 w8 hb7 HS => ?_)
  refine dn_ hK6 ?_
  refine sr_ fun _ hK9 => ?_
  refine v_ (fa_ Tryz.underlying34) ?_
  refine v_ (lb_ (HS.mu 2 rfl) Tryz.underlying3 (at34_0 (HS.aO 0 rfl)).int) ?_
  refine v_ (fa_ Tryz.underlying47) ?_
  refine WL.store HS 0 rfl rfl rfl rfl rfl rfl rfl (by kernel_rfl) (Nat.le_of_ble_eq_true rfl) (cs' := #[.int .i64 x0.f0, .int .i64 0, .int .i64 0, .slice none 0 0, .slice none 0 0, .slice none 0 0, .slice none 0 0, .int .i64 0, .slice none 0 0, .slice none 0 0, .int .i64 0, .int .i64 0, .slice none 0 0, .slice none 0 0]) (by kernel_rfl) (fun w10 HS => ?_)
  refine dn_ hK9 ?_
  refine sr_ fun _ hK11 => ?_
  refine v_ (fa_ Tryz.underlying34) ?_
  refine v_ (lb_ (HS.mu 2 rfl) Tryz.underlying3 (at34_1 (HS.aO 0 rfl)).int) ?_
  refine v_ (fa_ Tryz.underlying47) ?_
  refine WL.store HS 0 rfl rfl rfl rfl rfl rfl rfl (by kernel_rfl) (Nat.le_of_ble_eq_true rfl) (cs' := #[.int .i64 x0.f0, .int .i64 x0.f1, .int .i64 0, .slice none 0 0, .slice none 0 0, .slice none 0 0, .slice none 0 0, .int .i64 0, .slice none 0 0, .slice none 0 0, .int .i64 0, .int .i64 0, .slice none 0 0, .slice none 0 0]) (by kernel_rfl) (fun w12 HS => ?_)
  refine dn_ hK11 ?_
  refine sr_ fun _ hK13 => ?_
  refine v_ (fa_ Tryz.underlying34) ?_
  refine v_ (lb_ (HS.mu 2 rfl) Tryz.underlying3 (at34_2 (HS.aO 0 rfl)).int) ?_
  refine v_ (fa_ Tryz.underlying47) ?_
  refine WL.store HS 0 rfl rfl rfl rfl rfl rfl rfl (by kernel_rfl) (Nat.le_of_ble_eq_true rfl) (cs' := #[.int .i64 x0.f0, .int .i64 x0.f1, .int .i64 x0.f2, .slice none 0 0, .slice none 0 0, .slice none 0 0, .slice none 0 0, .int .i64 0, .slice none 0 0, .slice none 0 0, .int .i64 0, .int .i64 0, .slice none 0 0, .slice none 0 0]) (by kernel_rfl) (fun w14 HS => ?_)
  refine dn_ hK13 ?_
  refine sr_ fun _ hK15 => ?_
  refine v_ (fa_ Tryz.underlying34) ?_
  obtain ⟨A16, c17, hc18, le19, HS⟩ := HS.sO 0 rfl at34_3
  refine v_ (lb_ (HS.mu 2 rfl) Tryz.underlying25 hc18) ?_
  obtain ⟨t20, ha21, H⟩ := bind_some H
  refine c_ Tryz.func22 (laws_toMergeS.runs k A16 c17 x0.f3 t20 _ (HS.getO 0 rfl) le19 ha21) ?_
  rintro _ w22 ⟨A23, c24, rfl, le25, hf26, hb⟩
  replace HS := HS.newNs hb (foot_cons hf26 foot_nil)
  refine ⟨_, rfl, ?_⟩
  clear hb
  refine v_ (fa_ Tryz.underlying47) ?_
  refine WL.store HS 0 rfl rfl rfl rfl rfl rfl rfl (by kernel_rfl) (Nat.le_of_ble_eq_true rfl) (cs' := #[.int .i64 x0.f0, .int .i64 x0.f1, .int .i64 x0.f2, .slice A23 t20.length c24, .slice none 0 0, .slice none 0 0, .slice none 0 0, .int .i64 0, .slice none 0 0, .slice none 0 0, .int .i64 0, .int .i64 0, .slice none 0 0, .slice none 0 0]) (by kernel_rfl) (fun w27 HS => ?_)
  refine dn_ hK15 ?_
  refine sr_ fun _ hK28 => ?_
  refine v_ (fa_ Tryz.underlying34) ?_
  obtain ⟨A29, c30, hc31, le32, HS⟩ := HS.sO 1 rfl at34_4
  refine v_ (lb_ (HS.mu 2 rfl) Tryz.underlying26 hc31) ?_
  obtain ⟨t33, ha34, H⟩ := bind_some H
  refine c_ Tryz.func23 (laws_toIntSS.calls k A29 c30 x0.f4 t33 _ (HS.getO 0 rfl) le32 ha34) ?_
  rintro _ w35 ⟨v36, rfl, h37, hb⟩
  obtain ⟨A38, c39, rfl, le40, hf41⟩ := res_S h37
  replace HS := HS.newNs hb (foot_cons hf41 foot_nil)
  refine ⟨_, rfl, ?_⟩
  clear hb
  refine v_ (fa_ Tryz.underlying47) ?_
  refine WL.store HS 0 rfl rfl rfl rfl rfl rfl rfl (by kernel_rfl) (Nat.le_of_ble_eq_true rfl) (cs' := #[.int .i64 x0.f0, .int .i64 x0.f1, .int .i64 x0.f2, .slice A23 t20.length c24, .slice A38 t33.length c39, .slice none 0 0, .slice none 0 0, .int .i64 0, .slice none 0 0, .slice none 0 0, .int .i64 0, .int .i64 0, .slice none 0 0, .slice none 0 0]) (by kernel_rfl) (fun w42 HS => ?_)
  refine dn_ hK28 ?_
  refine sr_ fun _ hK43 => ?_
  refine v_ (fa_ Tryz.underlying34) ?_
  obtain ⟨A44, c45, hc46, le47, HS⟩ := HS.sO 2 rfl at34_5
  refine v_ (lb_ (HS.mu 2 rfl) Tryz.underlying27 hc46) ?_
  obtain ⟨t48, ha49, H⟩ := bind_some H
  refine c_ Tryz.func24 (laws_toLayerS.runs k A44 c45 x0.f5 t48 _ (HS.getO 0 rfl) le47 ha49) ?_
  rintro _ w50 ⟨A51, c52, rfl, le53, hf54, hb⟩
  replace HS := HS.newNs hb (foot_cons hf54 foot_nil)
  refine ⟨_, rfl, ?_⟩
  clear hb
  refine v_ (fa_ Tryz.underlying47) ?_
  refine WL.store HS 0 rfl rfl rfl rfl rfl rfl rfl (by kernel_rfl) (Nat.le_of_ble_eq_true rfl) (cs' := #[.int .i64 x0.f0, .int .i64 x0.f1, .int .i64 x0.f2, .slice A23 t20.length c24, .slice A38 t33.length c39, .slice A51 t48.length c52, .slice none 0 0, .int .i64 0, .slice none 0 0, .slice none 0 0, .int .i64 0, .int .i64 0, .slice none 0 0, .slice none 0 0]) (by kernel_rfl) (fun w55 HS => ?_)
  refine dn_ hK43 ?_
  refine sr_ fun _ hK56 => ?_
  refine v_ (fa_ Tryz.underlying34) ?_
  obtain ⟨A57, c58, hc59, le60, HS⟩ := HS.sO 3 rfl at34_6
  refine v_ (lb_ (HS.mu 2 rfl) Tryz.underlying28 hc59) ?_
  obtain ⟨t61, ha62, H⟩ := bind_some H
  refine c_ Tryz.func25 (laws_toIntS.calls k A57 c58 x0.f6 t61 _ (HS.getO 0 rfl) le60 ha62) ?_
  rintro _ w63 ⟨v64, rfl, h65, hb⟩
  obtain ⟨A66, c67, rfl, le68, hf69⟩ := res_R h65
  replace HS := HS.newNs hb (foot_cons hf69 foot_nil)
  refine ⟨_, rfl, ?_⟩
  clear hb
  refine v_ (fa_ Tryz.underlying47) ?_
  refine WL.store HS 0 rfl rfl rfl rfl rfl rfl rfl (by kernel_rfl) (Nat.le_of_ble_eq_true rfl) (cs' := #[.int .i64 x0.f0, .int .i64 x0.f1, .int .i64 x0.f2, .slice A23 t20.length c24, .slice A38 t33.length c39, .slice A51 t48.length c52, .slice A66 t61.length c67, .int .i64 0, .slice none 0 0, .slice none 0 0, .int .i64 0, .int .i64 0, .slice none 0 0, .slice none 0 0]) (by kernel_rfl) (fun w70 HS => ?_)
  refine dn_ hK56 ?_
  refine sr_ fun _ hK71 => ?_
  refine v_ (fa_ Tryz.underlying34) ?_
  obtain ⟨A72, c73, hc74, le75, HS⟩ := HS.sO 4 rfl at34_8
  obtain ⟨A76, c77, hc78, le79, HS⟩ := HS.sO 5 rfl at34_9
  refine v_ (ls_ (HS.mu 2 rfl) Tryz.underlying30 (part_cons (at34_7 (HS.aO 6 rfl)).int (part_cons hc74 (part_cons hc78 (part_cons (at34_10 (HS.aO 6 rfl)).int (part_cons (at34_11 (HS.aO 6 rfl)).int part_nil)))))) ?_
  obtain ⟨t80, ha81, H⟩ := bind_some H
  refine c_ Tryz.func26 (laws_toMatrix.runs k x0.f7 A72 c73 A76 c77 t80 _ (HS.getO 1 rfl) le75 (HS.getO 0 rfl) le79 ha81) ?_
  rintro _ w82 ⟨A83, c84, A87, c88, rfl, le85, hf86, le89, hf90, hb⟩
  replace HS := HS.newNs hb (foot_cons hf86 (foot_cons hf90 foot_nil))
  refine ⟨_, rfl, ?_⟩
  clear hb
  refine v_ (fa_ Tryz.underlying47) ?_
  refine WL.storeS HS 0 (vs := [.int .i64 t80.f0, .slice A83 t80.f1.length c84, .slice A87 t80.f2.length c88, .int .i64 t80.f3, .int .i64 t80.f4]) rfl rfl rfl rfl rfl rfl (one_cons rfl (one_cons rfl (one_cons rfl (one_cons rfl (one_cons rfl one_nil))))) (by kernel_rfl) (Nat.le_of_ble_eq_true rfl) (cs' := #[.int .i64 x0.f0, .int .i64 x0.f1, .int .i64 x0.f2, .slice A23 t20.length c24, .slice A38 t33.length c39, .slice A51 t48.length c52, .slice A66 t61.length c67, .int .i64 t80.f0, .slice A83 t80.f1.length c84, .slice A87 t80.f2.length c88, .int .i64 t80.f3, .int .i64 t80.f4, .slice none 0 0, .slice none 0 0]) (by kernel_rfl) (fun w91 HS => ?_)
  refine dn_ hK71 ?_
  refine sr_ fun _ hK92 => ?_
  refine v_ (fa_ Tryz.underlying34) ?_
  obtain ⟨A93, c94, hc95, le96, HS⟩ := HS.sO 6 rfl at34_12
  obtain ⟨A97, c98, hc99, le100, HS⟩ := HS.sO 7 rfl at34_13
  refine v_ (ls_ (HS.mu 2 rfl) Tryz.underlying32 (part_cons hc95 (part_cons hc99 part_nil))) ?_
  obtain ⟨t101, ha102, H⟩ := bind_some H
  refine c_ Tryz.func27 (laws_toTurns.runs k x0.f8 A93 c94 A97 c98 t101 _ (HS.getO 1 rfl) le96 (HS.getO 0 rfl) le100 ha102) ?_
  rintro _ w103 ⟨A104, c105, A108, c109, rfl, le106, hf107, le110, hf111, hb⟩
  replace HS := HS.newNs hb (foot_cons hf107 (foot_cons hf111 foot_nil))
  refine ⟨_, rfl, ?_⟩
  clear hb
  refine v_ (fa_ Tryz.underlying47) ?_
  refine WL.storeS HS 0 (vs := [.slice A104 t101.f0.length c105, .slice A108 t101.f1.length c109]) rfl rfl rfl rfl rfl rfl (one_cons rfl (one_cons rfl one_nil)) (by kernel_rfl) (Nat.le_of_ble_eq_true rfl) (cs' := #[.int .i64 x0.f0, .int .i64 x0.f1, .int .i64 x0.f2, .slice A23 t20.length c24, .slice A38 t33.length c39, .slice A51 t48.length c52, .slice A66 t61.length c67, .int .i64 t80.f0, .slice A83 t80.f1.length c84, .slice A87 t80.f2.length c88, .int .i64 t80.f3, .int .i64 t80.f4, .slice A104 t101.f0.length c105, .slice A108 t101.f1.length c109]) (by kernel_rfl) (fun w112 HS => ?_)
  refine dn_ hK92 ?_
  refine sr_ fun _ hK113 => ?_
  refine v_ (ls_ (HS.mu 0 rfl) Tryz.underlying47 part_all) ?_
  refine WL.storeS HS 1 (vs := [.int .i64 x0.f0, .int .i64 x0.f1, .int .i64 x0.f2, .slice A23 t20.length c24, .slice A38 t33.length c39, .slice A51 t48.length c52, .slice A66 t61.length c67, .int .i64 t80.f0, .slice A83 t80.f1.length c84, .slice A87 t80.f2.length c88, .int .i64 t80.f3, .int .i64 t80.f4, .slice A104 t101.f0.length c105, .slice A108 t101.f1.length c109]) rfl rfl rfl rfl rfl rfl (one_cons rfl (one_cons rfl (one_cons rfl (one_cons rfl (one_cons rfl (one_cons rfl (one_cons rfl (one_cons rfl (one_cons rfl (one_cons rfl (one_cons rfl (one_cons rfl (one_cons rfl (one_cons rfl one_nil)))))))))))))) (by kernel_rfl) (Nat.le_of_ble_eq_true rfl) (cs' := #[.int .i64 x0.f0, .int .i64 x0.f1, .int .i64 x0.f2, .slice A23 t20.length c24, .slice A38 t33.length c39, .slice A51 t48.length c52, .slice A66 t61.length c67, .int .i64 t80.f0, .slice A83 t80.f1.length c84, .slice A87 t80.f2.length c88, .int .i64 t80.f3, .int .i64 t80.f4, .slice A104 t101.f0.length c105, .slice A108 t101.f1.length c109]) (by kernel_rfl) (fun w114 HS => ?_)
  refine dn_ hK113 ?_
  refine WC.ret ?_
  replace HS := HS.deriveN (p := (fun W => k47.K W (⟨x0.f0, x0.f1, x0.f2, t20, t33, t48, t61, (⟨t80.f0, t80.f1, t80.f2, t80.f3, t80.f4⟩ : S44), (⟨t101.f0, t101.f1⟩ : S45)⟩ : S47) [.int .i64 x0.f0, .int .i64 x0.f1, .int .i64 x0.f2, .slice A23 t20.length c24, .slice A38 t33.length c39, .slice A51 t48.length c52, .slice A66 t61.length c67, .int .i64 t80.f0, .slice A83 t80.f1.length c84, .slice A87 t80.f2.length c88, .int .i64 t80.f3, .int .i64 t80.f4, .slice A104 t101.f0.length c105, .slice A108 t101.f1.length c109])) (fun W_ hN_ => (k47_mk _ (⟨x0.f0, x0.f1, x0.f2, t20, t33, t48, t61, (⟨t80.f0, t80.f1, t80.f2, t80.f3, t80.f4⟩ : S44), (⟨t101.f0, t101.f1⟩ : S45)⟩ : S47) (le25) (AllF.get 7 rfl hN_) (le40) (AllF.get 6 rfl hN_) (le53) (AllF.get 5 rfl hN_) (le68) (AllF.get 4 rfl hN_) (le85) (AllF.get 2 rfl hN_) (le89) (AllF.get 3 rfl hN_) (le106) (AllF.get 0 rfl hN_) (le110) (AllF.get 1 rfl hN_)))
  cases H
  exact fin1 Tryz.f8 rfl ⟨_, rfl, resv_box (HS.mu 1 rfl) Tryz.underlying47 rfl (by kernel_rfl)⟩ hR_ ⟨_, rfl, (foot_fresh (HS.footN 0 rfl)), HS.b⟩
def laws_eqLayer.g (k : Nat) (x0 : S86) (x1 : S86) : Option Bool := ((laws_eqIntS.f k x0.f0 x1.f0).bind fun t16 => (if t16 = true then ((laws_eqMatrix.g k x0.f1 x1.f1).bind fun t38 => (if t38 = true then ((laws_eqMatrix.g k x0.f2 x1.f2).bind fun t60 => (if t60 = true then ((laws_eqMatrix.g k x0.f3 x1.f3).bind fun t82 => (if t82 = true then ((laws_eqMatrix.g k x0.f4 x1.f4).bind fun t104 => (if t104 = true then ((laws_eqIntS.f k x0.f5 x1.f5).bind fun t118 => (if t118 = true then ((laws_eqMatrix.g k x0.f6 x1.f6).bind fun t140 => (if t140 = true then ((laws_eqMatrix.g k x0.f7 x1.f7).bind fun t162 => (if t162 = true then (some true) else (some false))) else (some false))) else (some false))) else (some false))) else (some false))) else (some false))) else (some false))) else (some false)))
theorem laws_eqLayer.runs (k : Nat) (cs0 : List Value) (x0 : S86) (cs1 : List Value) (x1 : S86) (r : Bool) (w : World) (hk0 : k86.K w x0 cs0) (hk1 : k86.K w x1 cs1) (H : laws_eqLayer.g k x0 x1 = some r) :
    Calls Tryz.prog 68 #[.agg cs0.toArray, .agg cs1.toArray] w fun e w' => e = .returned (.bool r) ∧ Below w.heap.size w w' := by
  have el0 : cs0.length = 32 := k86.K_len hk0
  have el1 : cs1.length = 32 := k86.K_len hk1
  unfold laws_eqLayer.g at H
  have HS : St (fun _ => True) w w [] [(fun W => k86.K W x0 cs0), (fun W => k86.K W x1 cs1)] [] := St.start (foot_cons (foot_K h86 hk0) (foot_cons (foot_K h86 hk1) foot_nil))
  refine cw_ Tryz.func68 fun R_ hR_ => ?_
  refine sr_ fun _ hK1 => ?_
  refine bo_ HS (fun b2 w3 hb2 HS => ?_)
  refine bo_ HS (fun b4 w5 hb4 HS => ?_)
  refine as_ ?_
  refine dn_ hK1 ?_
  refine WC.seq fun _ hK6 => ?_
  refine sr_ fun _ hK7 => ?_
  refine v_ (fa_ Tryz.underlying86) ?_
  obtain ⟨A8, c9, hc10, le11, HS⟩ := HS.sO 0 rfl at86_0
  refine v_ (lb_ (HS.mu 1 rfl) Tryz.underlying28 hc10) ?_
  refine v_ (fa_ Tryz.underlying86) ?_
  obtain ⟨A12, c13, hc14, le15, HS⟩ := HS.sO 2 rfl at86_0
  refine v_ (lb_ (HS.mu 0 rfl) Tryz.underlying28 hc14) ?_
  obtain ⟨t16, ha17, H⟩ := bind_some H
  refine cs0_ HS Tryz.func34 (laws_eqIntS.calls k A8 c9 x0.f0 A12 c13 x1.f0 t16 _ (HS.getO 1 rfl) le11 (HS.getO 0 rfl) le15 ha17) (fun w18 HS => ?_)
  refine nt_ ?_
  refine dn_ hK7 ?_
  rcases eti_ H with ⟨c19, H⟩ | ⟨c19, H⟩
  · refine wy_ (nB (bF c19)) ?_
    refine sr_ fun _ hK174 => ?_
    refine as_ ?_
    refine dn_ hK174 ?_
    cases H
    exact rt1 Tryz.f68 rfl rfl hR_ ⟨rfl, HS.b⟩
  refine wn_ (nB c19) ?_
  refine WC.skip ?_
  refine via_ hK6 ?_
  refine WC.seq fun _ hK20 => ?_
  refine sr_ fun _ hK21 => ?_
  refine v_ (fa_ Tryz.underlying86) ?_
  obtain ⟨A22, c23, hc24, le25, HS⟩ := HS.sO 2 rfl at86_2
  obtain ⟨A26, c27, hc28, le29, HS⟩ := HS.sO 3 rfl at86_3
  refine v_ (ls_ (HS.mu 1 rfl) Tryz.underlying44 (part_cons (at86_1 (HS.aO 4 rfl)).int (part_cons hc24 (part_cons hc28 (part_cons (at86_4 (HS.aO 4 rfl)).int (part_cons (at86_5 (HS.aO 4 rfl)).int part_nil)))))) ?_
  refine v_ (fa_ Tryz.underlying86) ?_
  obtain ⟨A30, c31, hc32, le33, HS⟩ := HS.sO 5 rfl at86_2
  obtain ⟨A34, c35, hc36, le37, HS⟩ := HS.sO 6 rfl at86_3
  refine v_ (ls_ (HS.mu 0 rfl) Tryz.underlying44 (part_cons (at86_1 (HS.aO 7 rfl)).int (part_cons hc32 (part_cons hc36 (part_cons (at86_4 (HS.aO 7 rfl)).int (part_cons (at86_5 (HS.aO 7 rfl)).int part_nil)))))) ?_
  obtain ⟨t38, ha39, H⟩ := bind_some H
  refine cs_ HS Tryz.func35 (laws_eqMatrix.runs k x0.f1 A22 c23 A26 c27 x1.f1 A30 c31 A34 c35 t38 _ (HS.getO 3 rfl) le25 (HS.getO 2 rfl) le29 (HS.getO 1 rfl) le33 (HS.getO 0 rfl) le37 ha39) (fun w40 HS => ?_)
  refine nt_ ?_
  refine dn_ hK21 ?_
  rcases eti_ H with ⟨c41, H⟩ | ⟨c41, H⟩
  · refine wy_ (nB (bF c41)) ?_
    refine sr_ fun _ hK173 => ?_
    refine as_ ?_
    refine dn_ hK173 ?_
    cases H
    exact rt1 Tryz.f68 rfl rfl hR_ ⟨rfl, HS.b⟩
  refine wn_ (nB c41) ?_
  refine WC.skip ?_
  refine via_ hK20 ?_
  refine WC.seq fun _ hK42 => ?_
  refine sr_ fun _ hK43 => ?_
  refine v_ (fa_ Tryz.underlying86) ?_
  obtain ⟨A44, c45, hc46, le47, HS⟩ := HS.sO 6 rfl at86_7
  obtain ⟨A48, c49, hc50, le51, HS⟩ := HS.sO 7 rfl at86_8
  refine v_ (ls_ (HS.mu 1 rfl) Tryz.underlying44 (part_cons (at86_6 (HS.aO 8 rfl)).int (part_cons hc46 (part_cons hc50 (part_cons (at86_9 (HS.aO 8 rfl)).int (part_cons (at86_10 (HS.aO 8 rfl)).int part_nil)))))) ?_
  refine v_ (fa_ Tryz.underlying86) ?_
  obtain ⟨A52, c53, hc54, le55, HS⟩ := HS.sO 9 rfl at86_7
  obtain ⟨A56, c57, hc58, le59, HS⟩ := HS.sO 10 rfl at86_8
  refine v_ (ls_ (HS.mu 0 rfl) Tryz.underlying44 (part_cons (at86_6 (HS.aO 11 rfl)).int (part_cons hc54 (part_cons hc58 (part_cons (at86_9 (HS.aO 11 rfl)).int (part_cons (at86_10 (HS.aO 11 rfl)).int part_nil)))))) ?_
  obtain ⟨t60, ha61, H⟩ := bind_some H
  refine cs_ HS Tryz.func35 (laws_eqMatrix.runs k x0.f2 A44 c45 A48 c49 x1.f2 A52 c53 A56 c57 t60 _ (HS.getO 3 rfl) le47 (HS.getO 2 rfl) le51 (HS.getO 1 rfl) le55 (HS.getO 0 rfl) le59 ha61) (fun w62 HS => ?_)
  refine nt_ ?_
  refine dn_ hK43 ?_
  rcases eti_ H with ⟨c63, H⟩ | ⟨c63, H⟩
  · refine wy_ (nB (bF c63)) ?_
    refine sr_ fun _ hK172 => ?_
    refine as_ ?_
    refine dn_ hK172 ?_
    cases H
    exact rt1 Tryz.f68 rfl rfl hR_ ⟨rfl, HS.b⟩
  refine wn_ (nB c63) ?_
  refine WC.skip ?_
  refine via_ hK42 ?_
  refine WC.seq fun _ hK64 => ?_
  refine sr_ fun _ hK65 => ?_
  refine v_ (fa_ Tryz.underlying86) ?_
  obtain ⟨A66, c67, hc68, le69, HS⟩ := HS.sO 10 rfl at86_12
  obtain ⟨A70, c71, hc72, le73, HS⟩ := HS.sO 11 rfl at86_13
  refine v_ (ls_ (HS.mu 1 rfl) Tryz.underlying44 (part_cons (at86_11 (HS.aO 12 rfl)).int (part_cons hc68 (part_cons hc72 (part_cons (at86_14 (HS.aO 12 rfl)).int (part_cons (at86_15 (HS.aO 12 rfl)).int part_nil)))))) ?_
  refine v_ (fa_ Tryz.underlying86) ?_
  obtain ⟨A74, c75, hc76, le77, HS⟩ := HS.sO 13 rfl at86_12
  obtain ⟨A78, c79, hc80, le81, HS⟩ := HS.sO 14 rfl at86_13
  refine v_ (ls_ (HS.mu 0 rfl) Tryz.underlying44 (part_cons (at86_11 (HS.aO 15 rfl)).int (part_cons hc76 (part_cons hc80 (part_cons (at86_14 (HS.aO 15 rfl)).int (part_cons (at86_15 (HS.aO 15 rfl)).int part_nil)))))) ?_
  obtain ⟨t82, ha83, H⟩ := bind_some H
  refine cs_ HS Tryz.func35 (laws_eqMatrix.runs k x0.f3 A66 c67 A70 c71 x1.f3 A74 c75 A78 c79 t82 _ (HS.getO 3 rfl) le69 (HS.getO 2 rfl) le73 (HS.getO 1 rfl) le77 (HS.getO 0 rfl) le81 ha83) (fun w84 HS => ?_)
  refine nt_ ?_
  refine dn_ hK65 ?_
  rcases eti_ H with ⟨c85, H⟩ | ⟨c85, H⟩
  · refine wy_ (nB (bF c85)) ?_
    refine sr_ fun _ hK171 => ?_
    refine as_ ?_
    refine dn_ hK171 ?_
    cases H
    exact rt1 Tryz.f68 rfl rfl hR_ ⟨rfl, HS.b⟩
  refine wn_ (nB c85) ?_
  refine WC.skip ?_
  refine via_ hK64 ?_
  refine WC.seq fun _ hK86 => ?_
  refine sr_ fun _ hK87 => ?_
  refine v_ (fa_ Tryz.underlying86) ?_
  obtain ⟨A88, c89, hc90, le91, HS⟩ := HS.sO 14 rfl at86_17
  obtain ⟨A92, c93, hc94, le95, HS⟩ := HS.sO 15 rfl at86_18
  refine v_ (ls_ (HS.mu 1 rfl) Tryz.underlying44 (part_cons (at86_16 (HS.aO 16 rfl)).int (part_cons hc90 (part_cons hc94 (part_cons (at86_19 (HS.aO 16 rfl)).int (part_cons (at86_20 (HS.aO 16 rfl)).int part_nil)))))) ?_
  refine v_ (fa_ Tryz.underlying86) ?_
  obtain ⟨A96, c97, hc98, le99, HS⟩ := HS.sO 17 rfl at86_17
  obtain ⟨A100, c101, hc102, le103, HS⟩ := HS.sO 18 rfl at86_18
  refine v_ (ls_ (HS.mu 0 rfl) Tryz.underlying44 (part_cons (at86_16 (HS.aO 19 rfl)).int (part_cons hc98 (part_cons hc102 (part_cons (at86_19 (HS.aO 19 rfl)).int (part_cons (at86_20 (HS.aO 19 rfl)).int part_nil)))))) ?_
  obtain ⟨t104, ha105, H⟩ := bind_some H
  refine cs_ HS Tryz.func35 (laws_eqMatrix.runs k x0.f4 A88 c89 A92 c93 x1.f4 A96 c97 A100 c101 t104 _ (HS.getO 3 rfl) le91 (HS.getO 2 rfl) le95 (HS.getO 1 rfl) le99 (HS.getO 0 rfl) le103 ha105) (fun w106 HS => ?_)
  refine nt_ ?_
  refine dn_ hK87 ?_
  rcases eti_ H with ⟨c107, H⟩ | ⟨c107, H⟩
  · refine wy_ (nB (bF c107)) ?_
    refine sr_ fun _ hK170 => ?_
    refine as_ ?_
    refine dn_ hK170 ?_
    cases H
    exact rt1 Tryz.f68 rfl rfl hR_ ⟨rfl, HS.b⟩
  refine wn_ (nB c107) ?_
  refine WC.skip ?_
  refine via_ hK86 ?_
  refine WC.seq fun _ hK108 => ?_
  refine sr_ fun _ hK109 => ?_
  refine v_ (fa_ Tryz.underlying86) ?_
  obtain ⟨A110, c111, hc112, le113, HS⟩ := HS.sO 18 rfl at86_21
  refine v_ (lb_ (HS.mu 1 rfl) Tryz.underlying28 hc112) ?_
  refine v_ (fa_ Tryz.underlying86) ?_
  obtain ⟨A114, c115, hc116, le117, HS⟩ := HS.sO 20 rfl at86_21
  refine v_ (lb_ (HS.mu 0 rfl) Tryz.underlying28 hc116) ?_
  obtain ⟨t118, ha119, H⟩ := bind_some H
  refine cs0_ HS Tryz.func34 (laws_eqIntS.calls k A110 c111 x0.f5 A114 c115 x1.f5 t118 _ (HS.getO 1 rfl) le113 (HS.getO 0 rfl) le117 ha119) (fun w120 HS => ?_)
  refine nt_ ?_
  refine dn_ hK109 ?_
  rcases eti_ H with ⟨c121, H⟩ | ⟨c121, H⟩
  · refine wy_ (nB (bF c121)) ?_
    refine sr_ fun _ hK169 => ?_
    refine as_ ?_
    refine dn_ hK169 ?_
    cases H
    exact rt1 Tryz.f68 rfl rfl hR_ ⟨rfl, HS.b⟩
  refine wn_ (nB c121) ?_
  refine WC.skip ?_
  refine via_ hK108 ?_
  refine WC.seq fun _ hK122 => ?_
  refine sr_ fun _ hK123 => ?_
  refine v_ (fa_ Tryz.underlying86) ?_
  obtain ⟨A124, c125, hc126, le127, HS⟩ := HS.sO 20 rfl at86_23
  obtain ⟨A128, c129, hc130, le131, HS⟩ := HS.sO 21 rfl at86_24
  refine v_ (ls_ (HS.mu 1 rfl) Tryz.underlying44 (part_cons (at86_22 (HS.aO 22 rfl)).int (part_cons hc126 (part_cons hc130 (part_cons (at86_25 (HS.aO 22 rfl)).int (part_cons (at86_26 (HS.aO 22 rfl)).int part_nil)))))) ?_
  refine v_ (fa_ Tryz.underlying86) ?_
  obtain ⟨A132, c133, hc134, le135, HS⟩ := HS.sO 23 rfl at86_23
  obtain ⟨A136, c137, hc138, le139, HS⟩ := HS.sO 24 rfl at86_24
  refine v_ (ls_ (HS.mu 0 rfl) Tryz.underlying44 (part_cons (at86_22 (HS.aO 25 rfl)).int (part_cons hc134 (part_cons hc138 (part_cons (at86_25 (HS.aO 25 rfl)).int (part_cons (at86_26 (HS.aO 25 rfl)).int part_nil)))))) ?_
  obtain ⟨t140, ha141, H⟩ := bind_some H
  refine cs_ HS Tryz.func35 (laws_eqMatrix.runs k x0.f6 A124 c125 A128 c129 x1.f6 A132 c133 A136 c137 t140 _ (HS.getO 3 rfl) le127 (HS.getO 2 rfl) le131 (HS.getO 1 rfl) le135 (HS.getO 0 rfl) le139 ha141) (fun w142 HS => ?_)
  refine nt_ ?_
  refine dn_ hK123 ?_
  rcases eti_ H with ⟨c143, H⟩ | ⟨c143, H⟩
  · refine wy_ (nB (bF c143)) ?_
    refine sr_ fun _ hK168 => ?_
    refine as_ ?_
    refine dn_ hK168 ?_
    cases H
    exact rt1 Tryz.f68 rfl rfl hR_ ⟨rfl, HS.b⟩
  refine wn_ (nB c143) ?_
  refine WC.skip ?_
  refine via_ hK122 ?_
  refine WC.seq fun _ hK144 => ?_
  refine sr_ fun _ hK145 => ?_
  refine v_ (fa_ Tryz.underlying86) ?_
  obtain ⟨A146, c147, hc148, le149, HS⟩ := HS.sO 24 rfl at86_28
  obtain ⟨A150, c151, hc152, le153, HS⟩ := HS.sO 25 rfl at86_29
  refine v_ (ls_ (HS.mu 1 rfl) Tryz.underlying44 (part_cons (at86_27 (HS.aO 26 rfl)).int (part_cons hc148 (part_cons hc152 (part_cons (at86_30 (HS.aO 26 rfl)).int (part_cons (at86_31 (HS.aO 26 rfl)).int part_nil)))))) ?_
  refine v_ (fa_ Tryz.underlying86) ?_
  obtain ⟨A154, c155, hc156, le157, HS⟩ := HS.sO 27 rfl at86_28
  obtain ⟨A158, c159, hc160, le161, HS⟩ := HS.sO 28 rfl at86_29
  refine v_ (ls_ (HS.mu 0 rfl) Tryz.underlying44 (part_cons (at86_27 (HS.aO 29 rfl)).int (part_cons hc156 (part_cons hc160 (part_cons (at86_30 (HS.aO 29 rfl)).int (part_cons (at86_31 (HS.aO 29 rfl)).int part_nil)))))) ?_
  obtain ⟨t162, ha163, H⟩ := bind_some H
  refine cs_ HS Tryz.func35 (laws_eqMatrix.runs k x0.f7 A146 c147 A150 c151 x1.f7 A154 c155 A158 c159 t162 _ (HS.getO 3 rfl) le149 (HS.getO 2 rfl) le153 (HS.getO 1 rfl) le157 (HS.getO 0 rfl) le161 ha163) (fun w164 HS => ?_)
  refine nt_ ?_
  refine dn_ hK145 ?_
  rcases eti_ H with ⟨c165, H⟩ | ⟨c165, H⟩
  · refine wy_ (nB (bF c165)) ?_
    refine sr_ fun _ hK167 => ?_
    refine as_ ?_
    refine dn_ hK167 ?_
    cases H
    exact rt1 Tryz.f68 rfl rfl hR_ ⟨rfl, HS.b⟩
  refine wn_ (nB c165) ?_
  refine WC.skip ?_
  refine via_ hK144 ?_
  refine sr_ fun _ hK166 => ?_
  refine as_ ?_
  refine dn_ hK166 ?_
  cases H
  exact rt1 Tryz.f68 rfl rfl hR_ ⟨rfl, HS.b⟩
def laws_eqLayerS.b0 (l0 : List S86) (l1 : List S86) (rec_ : Int → Option (Bool ⊕ Int)) (k17 : Nat) (i11 : Int) : Option (Bool ⊕ Int) := (if i11 < (l0.length : Int) then (if 0 ≤ i11 ∧ i11 < (l0.length : Int) then (if 0 ≤ i11 ∧ i11 < (l1.length : Int) then ((laws_eqLayer.g k17 (l0.getD i11.toNat o86) (l1.getD i11.toNat o86)).bind fun t34 => (if t34 = true then (rec_ (wrap64 (i11 + 1))) else (some (Sum.inl false)))) else none) else none) else (some (Sum.inr i11)))
def laws_eqLayerS.l0 (l0 : List S86) (l1 : List S86) : Nat → Int → Option (Bool ⊕ Int)
  | 0, _ => none
  | k + 1, i11 => laws_eqLayerS.b0 l0 l1 (laws_eqLayerS.l0 l0 l1 k) k i11
def laws_eqLayerS.g (k : Nat) (l0 : List S86) (l1 : List S86) : Option Bool := (if (l0.length : Int) = (l1.length : Int) then ((laws_eqLayerS.l0 l0 l1 k 0).bind (fun o15 => match o15 with | .inl r_ => some r_ | .inr i11 => (some true))) else (some false))
theorem laws_eqLayerS.runs (k : Nat) (A0 : Option Addr) (c0 : Nat) (l0 : List S86) (A1 : Option Addr) (c1 : Nat) (l1 : List S86) (r : Bool) (w : World) (hr0 : k86.C w A0 l0.length l0) (hc0 : l0.length ≤ c0) (hr1 : k86.C w A1 l1.length l1) (hc1 : l1.length ≤ c1) (H : laws_eqLayerS.g k l0 l1 = some r) :
    Calls Tryz.prog 33 #[.slice A0 l0.length c0, .slice A1 l1.length c1] w fun e w' => e = .returned (.bool r) ∧ Below w.heap.size w w' := by
  unfold laws_eqLayerS.g at H
  have HS : St (fun _ => True) w w [] [(fun W => k86.C W A0 l0.length l0), (fun W => k86.C W A1 l1.length l1)] [] := St.start (foot_cons (foot_C h86 hr0) (foot_cons (foot_C h86 hr1) foot_nil))
  refine cw_ Tryz.func33 fun R_ hR_ => ?_
  refine sr_ fun _ hK1 => ?_
  refine as_ ?_
  refine dn_ hK1 ?_
  refine WC.seq fun _ hK2 => ?_
  refine sr_ fun _ hK3 => ?_
  refine mv_ ?_
  refine ln_ Tryz.underlying43 ?_
  refine mv_ ?_
  refine ln_ Tryz.underlying43 ?_
  refine b_ bin_neq ?_
  refine dn_ hK3 ?_
  rcases eti_ H with ⟨c4, H⟩ | ⟨c4, H⟩
  · refine wy_ (qT c4) ?_
    refine sr_ fun _ hK39 => ?_
    refine as_ ?_
    refine dn_ hK39 ?_
    cases H
    exact rt1 Tryz.f33 rfl rfl hR_ ⟨rfl, HS.b⟩
  refine wn_ (qF c4) ?_
  refine WC.skip ?_
  refine via_ hK2 ?_
  refine WC.seq fun K5 hK5 => ?_
  refine sr_ fun _ hK6 => ?_
  refine as_ ?_
  refine dn_ hK6 ?_
  refine WC.block ?_
  obtain ⟨G7, hG8, o9, H, Ho10⟩ := open_G H
  have X12 : ∀ E_ W_, (∃ (i11 : Int), E_ = [(0, .slice A0 l0.length c0), (1, .slice A1 l1.length c1), (5, .int .i64 i11)] ∧ G7 (Sum.inr i11) = some r ∧ St (fun _ => True) w W_ [] [(fun W => k86.C W A0 l0.length l0), (fun W => k86.C W A1 l1.length l1)] []) → ∀ a, Fits a 27 E_ → K5 a W_ := by
    rintro E_ w13 ⟨i11, rfl, H, HS⟩
    rw [hG8] at H
    (try dsimp only at H)
    refine hK5 _ _ ?_
    refine sr_ fun _ hK14 => ?_
    refine as_ ?_
    refine dn_ hK14 ?_
    cases H
    exact rt1 Tryz.f33 rfl rfl hR_ ⟨rfl, HS.b⟩
  refine WC.loop (fun k_ E_ W_ => ∃ (i11 : Int), E_ = [(0, .slice A0 l0.length c0), (1, .slice A1 l1.length c1), (5, .int .i64 i11)] ∧ (∃ o_, laws_eqLayerS.l0 l0 l1 k_ i11 = some o_ ∧ G7 o_ = some r) ∧ St (fun _ => True) w W_ [] [(fun W => k86.C W A0 l0.length l0), (fun W => k86.C W A1 l1.length l1)] []) k ⟨0, rfl, ⟨_, H, Ho10⟩, (St.pick HS (fun W_ h_ => ⟨AllF.get 0 rfl h_, AllF.get 1 rfl h_, trivial⟩) (fun W_ h_ => trivial))⟩ ⟨rfl, rfl, rfl, trivial⟩ ?_
  rintro k_ E_ w16 ⟨i11, rfl, ⟨o9, H, Ho10⟩, HS⟩
  rcases k_ with _ | k17
  · exact no_ H
  replace H : laws_eqLayerS.b0 l0 l1 (laws_eqLayerS.l0 l0 l1 k17) k17 i11 = some o9 := H
  unfold laws_eqLayerS.b0 at H
  refine WC.seq fun _ hK18 => ?_
  refine sr_ fun _ hK19 => ?_
  refine mv_ ?_
  refine mv_ ?_
  refine ln_ Tryz.underlying43 ?_
  refine b_ bin_lss ?_
  refine dn_ hK19 ?_
  rcases eti_ H with ⟨c20, H⟩ | ⟨c20, H⟩
  · refine wn_ (dF c20) ?_
    refine WC.exit ?_
    cases H
    exact WQ.via2 (fun _ _ h_ => h_) X12 ⟨i11, rfl, Ho10, (St.pick HS (fun W_ h_ => ⟨AllF.get 0 rfl h_, AllF.get 1 rfl h_, trivial⟩) (fun W_ h_ => trivial))⟩ ⟨rfl, rfl, rfl, trivial⟩
  refine wy_ (dT c20) ?_
  refine WC.skip ?_
  refine via_ hK18 ?_
  refine WC.seq fun _ hK21 => ?_
  refine WC.block ?_
  refine WC.seq fun _ hK22 => ?_
  refine WC.drawS HS [] rfl rfl (fun w23 HS => ?_)
  have HB := Below.refl w23.heap.size w23
  have HSW := HS
  refine dm_ 0 ?_
  refine dm_ 1 ?_
  obtain ⟨⟨q24, q25⟩, H⟩ := if_some H
  obtain ⟨ad26, rfl⟩ := C_open (HS.getO 0 rfl) (by omega)
  refine di_ 2 Tryz.underlying43 32 q24 q25 ?_
  refine dm_ 4 ?_
  refine dm_ 5 ?_
  obtain ⟨⟨q27, q28⟩, H⟩ := if_some H
  obtain ⟨ad29, rfl⟩ := C_open (HS.getO 1 rfl) (by omega)
  refine di_ 6 Tryz.underlying43 32 q27 q28 ?_
  obtain ⟨e30, el31, HS⟩ := HS.elO 0 rfl (by decide) o86 i11 q24 q25
  replace HS := HS.deriveO (p := (fun W => k86.K W (l0.getD i11.toNat o86) e30)) (fun W_ hO_ hN_ => (AllF.get 0 rfl hO_).1)
  refine dt_ 3 (Below.refl _ _) (fun w_ hw_ => Run.loadS (cs := e30) rfl rfl Tryz.underlying86 rfl (by rw [el31]; kernel_rfl) ((HS.below hw_).getO 1 rfl).2) ?_
  obtain ⟨e32, el33, HS⟩ := HS.elO 3 rfl (by decide) o86 i11 q27 q28
  replace HS := HS.deriveO (p := (fun W => k86.K W (l1.getD i11.toNat o86) e32)) (fun W_ hO_ hN_ => (AllF.get 0 rfl hO_).1)
  refine dt_ 7 (Below.refl _ _) (fun w_ hw_ => Run.loadS (cs := e32) rfl rfl Tryz.underlying86 rfl (by rw [el33]; kernel_rfl) ((HS.below hw_).getO 1 rfl).2) ?_
  obtain ⟨t34, ha35, H⟩ := bind_some H
  refine dcs_ HS HB 8 (w_none rfl) Tryz.func68 (laws_eqLayer.runs k17 e30 (l0.getD i11.toNat o86) e32 (l1.getD i11.toNat o86) t34 _ (HS.getO 2 rfl) (HS.getO 0 rfl) ha35) (fun w36 HS HB => ?_)
  refine dp_ 9 (fun _ => Run.not rfl rfl) ?_
  refine dd_ ?_
  clear HB HSW
  refine via_ hK22 ?_
  rcases eti_ H with ⟨c37, H⟩ | ⟨c37, H⟩
  · refine wy_ (nB (bF c37)) ?_
    refine sr_ fun _ hK38 => ?_
    refine as_ ?_
    refine dn_ hK38 ?_
    refine WC.ret ?_
    cases H
    rw [hG8] at Ho10
    replace H : some _ = some _ := Ho10
    cases H
    exact fin1 Tryz.f33 rfl rfl hR_ ⟨rfl, HS.b⟩
  refine wn_ (nB c37) ?_
  refine WC.skip ?_
  refine via_ hK21 ?_
  refine rg_ ?_
  refine mv_ ?_
  refine b_ bin_add64 ?_
  refine as_ ?_
  refine WL.done ?_
  exact WQ.round k17 (fun _ _ h_ => h_) (Nat.lt_succ_self _) ⟨(wrap64 (i11 + 1)), rfl, ⟨_, H, Ho10⟩, (St.pick HS (fun W_ h_ => ⟨AllF.get 4 rfl h_, AllF.get 5 rfl h_, trivial⟩) (fun W_ h_ => trivial))⟩ ⟨rfl, rfl, rfl, trivial⟩
def laws_eqModel.g (k : Nat) (x0 : S47) (x1 : S47) : Option Bool := (if x0.f0 = x1.f0 then (if x0.f1 = x1.f1 then (if x0.f2 = x1.f2 then ((laws_eqMergeS.g k x0.f3 x1.f3).bind fun t25 => (if t25 = true then ((laws_eqIntSS.f k x0.f4 x1.f4).bind fun t39 => (if t39 = true then ((laws_eqLayerS.g k x0.f5 x1.f5).bind fun t53 => (if t53 = true then ((laws_eqIntS.f k x0.f6 x1.f6).bind fun t67 => (if t67 = true then ((laws_eqMatrix.g k x0.f7 x1.f7).bind fun t89 => (if t89 = true then ((laws_eqTurns.g k x0.f8 x1.f8).bind fun t111 => (if t111 = true then (some true) else (some false))) else (some false))) else (some false))) else (some false))) else (some false))) else (some false))) else (some false)) else (some false)) else (some false))
theorem laws_eqModel.runs (k : Nat) (cs0 : List Value) (x0 : S47) (cs1 : List Value) (x1 : S47) (r : Bool) (w : World) (hk0 : k47.K w x0 cs0) (hk1 : k47.K w x1 cs1) (H : laws_eqModel.g k x0 x1 = some r) :
    Calls Tryz.prog 11 #[.agg cs0.toArray, .agg cs1.toArray] w fun e w' => e = .returned (.bool r) ∧ Below w.heap.size w w' := by
  have el0 : cs0.length = 14 := k47.K_len hk0
  have el1 : cs1.length = 14 := k47.K_len hk1
  unfold laws_eqModel.g at H
  have HS : St (fun _ => True) w w [] [(fun W => k47.K W x0 cs0), (fun W => k47.K W x1 cs1)] [] := St.start (foot_cons (foot_K h47 hk0) (foot_cons (foot_K h47 hk1) foot_nil))
  refine cw_ Tryz.func11 fun R_ hR_ => ?_
  refine sr_ fun _ hK1 => ?_
  refine bo_ HS (fun b2 w3 hb2 HS => ?_)
  refine bo_ HS (fun b4 w5 hb4 HS => ?_)
  refine as_ ?_
  refine dn_ hK1 ?_
  refine WC.seq fun _ hK6 => ?_
  refine sr_ fun _ hK7 => ?_
  refine v_ (fa_ Tryz.underlying47) ?_
  refine v_ (lb_ (HS.mu 1 rfl) Tryz.underlying3 (at47_0 (HS.aO 0 rfl)).int) ?_
  refine v_ (fa_ Tryz.underlying47) ?_
  refine v_ (lb_ (HS.mu 0 rfl) Tryz.underlying3 (at47_0 (HS.aO 1 rfl)).int) ?_
  refine b_ bin_neq ?_
  refine dn_ hK7 ?_
  rcases eti_ H with ⟨c8, H⟩ | ⟨c8, H⟩
  · refine wy_ (qT c8) ?_
    refine sr_ fun _ hK124 => ?_
    refine as_ ?_
    refine dn_ hK124 ?_
    cases H
    exact rt1 Tryz.f11 rfl rfl hR_ ⟨rfl, HS.b⟩
  refine wn_ (qF c8) ?_
  refine WC.skip ?_
  refine via_ hK6 ?_
  refine WC.seq fun _ hK9 => ?_
  refine sr_ fun _ hK10 => ?_
  refine v_ (fa_ Tryz.underlying47) ?_
  refine v_ (lb_ (HS.mu 1 rfl) Tryz.underlying3 (at47_1 (HS.aO 0 rfl)).int) ?_
  refine v_ (fa_ Tryz.underlying47) ?_
  refine v_ (lb_ (HS.mu 0 rfl) Tryz.underlying3 (at47_1 (HS.aO 1 rfl)).int) ?_
  refine b_ bin_neq ?_
  refine dn_ hK10 ?_
  rcases eti_ H with ⟨c11, H⟩ | ⟨c11, H⟩
  · refine wy_ (qT c11) ?_
    refine sr_ fun _ hK123 => ?_
    refine as_ ?_
    refine dn_ hK123 ?_
    cases H
    exact rt1 Tryz.f11 rfl rfl hR_ ⟨rfl, HS.b⟩
  refine wn_ (qF c11) ?_
  refine WC.skip ?_
  refine via_ hK9 ?_
  refine WC.seq fun _ hK12 => ?_
  refine sr_ fun _ hK13 => ?_
  refine v_ (fa_ Tryz.underlying47) ?_
  refine v_ (lb_ (HS.mu 1 rfl) Tryz.underlying3 (at47_2 (HS.aO 0 rfl)).int) ?_
  refine v_ (fa_ Tryz.underlying47) ?_
  refine v_ (lb_ (HS.mu 0 rfl) Tryz.underlying3 (at47_2 (HS.aO 1 rfl)).int) ?_
  refine b_ bin_neq ?_
  refine dn_ hK13 ?_
  rcases eti_ H with ⟨c14, H⟩ | ⟨c14, H⟩
  · refine wy_ (qT c14) ?_
    refine sr_ fun _ hK122 => ?_
    refine as_ ?_
    refine dn_ hK122 ?_
    cases H
    exact rt1 Tryz.f11 rfl rfl hR_ ⟨rfl, HS.b⟩
  refine wn_ (qF c14) ?_
  refine WC.skip ?_
  refine via_ hK12 ?_
  refine WC.seq fun _ hK15 => ?_
  refine sr_ fun _ hK16 => ?_
  refine v_ (fa_ Tryz.underlying47) ?_
  obtain ⟨A17, c18, hc19, le20, HS⟩ := HS.sO 0 rfl at47_3
  refine v_ (lb_ (HS.mu 1 rfl) Tryz.underlying42 hc19) ?_
  refine v_ (fa_ Tryz.underlying47) ?_
  obtain ⟨A21, c22, hc23, le24, HS⟩ := HS.sO 2 rfl at47_3
  refine v_ (lb_ (HS.mu 0 rfl) Tryz.underlying42 hc23) ?_
  obtain ⟨t25, ha26, H⟩ := bind_some H
  refine cs_ HS Tryz.func31 (laws_eqMergeS.runs k A17 c18 x0.f3 A21 c22 x1.f3 t25 _ (HS.getO 1 rfl) le20 (HS.getO 0 rfl) le24 ha26) (fun w27 HS => ?_)
  refine nt_ ?_
  refine dn_ hK16 ?_
  rcases eti_ H with ⟨c28, H⟩ | ⟨c28, H⟩
  · refine wy_ (nB (bF c28)) ?_
    refine sr_ fun _ hK121 => ?_
    refine as_ ?_
    refine dn_ hK121 ?_
    cases H
    exact rt1 Tryz.f11 rfl rfl hR_ ⟨rfl, HS.b⟩
  refine wn_ (nB c28) ?_
  refine WC.skip ?_
  refine via_ hK15 ?_
  refine WC.seq fun _ hK29 => ?_
  refine sr_ fun _ hK30 => ?_
  refine v_ (fa_ Tryz.underlying47) ?_
  obtain ⟨A31, c32, hc33, le34, HS⟩ := HS.sO 2 rfl at47_4
  refine v_ (lb_ (HS.mu 1 rfl) Tryz.underlying26 hc33) ?_
  refine v_ (fa_ Tryz.underlying47) ?_
  obtain ⟨A35, c36, hc37, le38, HS⟩ := HS.sO 4 rfl at47_4
  refine v_ (lb_ (HS.mu 0 rfl) Tryz.underlying26 hc37) ?_
  obtain ⟨t39, ha40, H⟩ := bind_some H
  refine cs0_ HS Tryz.func32 (laws_eqIntSS.calls k A31 c32 x0.f4 A35 c36 x1.f4 t39 _ (HS.getO 1 rfl) le34 (HS.getO 0 rfl) le38 ha40) (fun w41 HS => ?_)
  refine nt_ ?_
  refine dn_ hK30 ?_
  rcases eti_ H with ⟨c42, H⟩ | ⟨c42, H⟩
  · refine wy_ (nB (bF c42)) ?_
    refine sr_ fun _ hK120 => ?_
    refine as_ ?_
    refine dn_ hK120 ?_
    cases H
    exact rt1 Tryz.f11 rfl rfl hR_ ⟨rfl, HS.b⟩
  refine wn_ (nB c42) ?_
  refine WC.skip ?_
  refine via_ hK29 ?_
  refine WC.seq fun _ hK43 => ?_
  refine sr_ fun _ hK44 => ?_
  refine v_ (fa_ Tryz.underlying47) ?_
  obtain ⟨A45, c46, hc47, le48, HS⟩ := HS.sO 4 rfl at47_5
  refine v_ (lb_ (HS.mu 1 rfl) Tryz.underlying43 hc47) ?_
  refine v_ (fa_ Tryz.underlying47) ?_
  obtain ⟨A49, c50, hc51, le52, HS⟩ := HS.sO 6 rfl at47_5
  refine v_ (lb_ (HS.mu 0 rfl) Tryz.underlying43 hc51) ?_
  obtain ⟨t53, ha54, H⟩ := bind_some H
  refine cs_ HS Tryz.func33 (laws_eqLayerS.runs k A45 c46 x0.f5 A49 c50 x1.f5 t53 _ (HS.getO 1 rfl) le48 (HS.getO 0 rfl) le52 ha54) (fun w55 HS => ?_)
  refine nt_ ?_
  refine dn_ hK44 ?_
  rcases eti_ H with ⟨c56, H⟩ | ⟨c56, H⟩
  · refine wy_ (nB (bF c56)) ?_
    refine sr_ fun _ hK119 => ?_
    refine as_ ?_
    refine dn_ hK119 ?_
    cases H
    exact rt1 Tryz.f11 rfl rfl hR_ ⟨rfl, HS.b⟩
  refine wn_ (nB c56) ?_
  refine WC.skip ?_
  refine via_ hK43 ?_
  refine WC.seq fun _ hK57 => ?_
  refine sr_ fun _ hK58 => ?_
  refine v_ (fa_ Tryz.underlying47) ?_
  obtain ⟨A59, c60, hc61, le62, HS⟩ := HS.sO 6 rfl at47_6
  refine v_ (lb_ (HS.mu 1 rfl) Tryz.underlying28 hc61) ?_
  refine v_ (fa_ Tryz.underlying47) ?_
  obtain ⟨A63, c64, hc65, le66, HS⟩ := HS.sO 8 rfl at47_6
  refine v_ (lb_ (HS.mu 0 rfl) Tryz.underlying28 hc65) ?_
  obtain ⟨t67, ha68, H⟩ := bind_some H
  refine cs0_ HS Tryz.func34 (laws_eqIntS.calls k A59 c60 x0.f6 A63 c64 x1.f6 t67 _ (HS.getO 1 rfl) le62 (HS.getO 0 rfl) le66 ha68) (fun w69 HS => ?_)
  refine nt_ ?_
  refine dn_ hK58 ?_
  rcases eti_ H with ⟨c70, H⟩ | ⟨c70, H⟩
  · refine wy_ (nB (bF c70)) ?_
    refine sr_ fun _ hK118 => ?_
    refine as_ ?_
    refine dn_ hK118 ?_
    cases H
    exact rt1 Tryz.f11 rfl rfl hR_ ⟨rfl, HS.b⟩
  refine wn_ (nB c70) ?_
  refine WC.skip ?_
  refine via_ hK57 ?_
  refine WC.seq fun _ hK71 => ?_
  refine sr_ fun _ hK72 => ?_
  refine v_ (fa_ Tryz.underlying47) ?_
  obtain ⟨A73, c74, hc75, le76, HS⟩ := HS.sO 8 rfl at47_8
  obtain ⟨A77, c78, hc79, le80, HS⟩ := HS.sO 9 rfl at47_9
  refine v_ (ls_ (HS.mu 1 rfl) Tryz.underlying44 (part_cons (at47_7 (HS.aO 10 rfl)).int (part_cons hc75 (part_cons hc79 (part_cons (at47_10 (HS.aO 10 rfl)).int (part_cons (at47_11 (HS.aO 10 rfl)).int part_nil)))))) ?_
  refine v_ (fa_ Tryz.underlying47) ?_
  obtain ⟨A81, c82, hc83, le84, HS⟩ := HS.sO 11 rfl at47_8
  obtain ⟨A85, c86, hc87, le88, HS⟩ := HS.sO 12 rfl at47_9
  refine v_ (ls_ (HS.mu 0 rfl) Tryz.underlying44 (part_cons (at47_7 (HS.aO 13 rfl)).int (part_cons hc83 (part_cons hc87 (part_cons (at47_10 (HS.aO 13 rfl)).int (part_cons (at47_11 (HS.aO 13 rfl)).int part_nil)))))) ?_
  obtain ⟨t89, ha90, H⟩ := bind_some H
  refine cs_ HS Tryz.func35 (laws_eqMatrix.runs k x0.f7 A73 c74 A77 c78 x1.f7 A81 c82 A85 c86 t89 _ (HS.getO 3 rfl) le76 (HS.getO 2 rfl) le80 (HS.getO 1 rfl) le84 (HS.getO 0 rfl) le88 ha90) (fun w91 HS => ?_)
  refine nt_ ?_
  refine dn_ hK72 ?_
  rcases eti_ H with ⟨c92, H⟩ | ⟨c92, H⟩
  · refine wy_ (nB (bF c92)) ?_
    refine sr_ fun _ hK117 => ?_
    refine as_ ?_
    refine dn_ hK117 ?_
    cases H
    exact rt1 Tryz.f11 rfl rfl hR_ ⟨rfl, HS.b⟩
  refine wn_ (nB c92) ?_
  refine WC.skip ?_
  refine via_ hK71 ?_
  refine WC.seq fun _ hK93 => ?_
  refine sr_ fun _ hK94 => ?_
  refine v_ (fa_ Tryz.underlying47) ?_
  obtain ⟨A95, c96, hc97, le98, HS⟩ := HS.sO 12 rfl at47_12
  obtain ⟨A99, c100, hc101, le102, HS⟩ := HS.sO 13 rfl at47_13
  refine v_ (ls_ (HS.mu 1 rfl) Tryz.underlying45 (part_cons hc97 (part_cons hc101 part_nil))) ?_
  refine v_ (fa_ Tryz.underlying47) ?_
  obtain ⟨A103, c104, hc105, le106, HS⟩ := HS.sO 15 rfl at47_12
  obtain ⟨A107, c108, hc109, le110, HS⟩ := HS.sO 16 rfl at47_13
  refine v_ (ls_ (HS.mu 0 rfl) Tryz.underlying45 (part_cons hc105 (part_cons hc109 part_nil))) ?_
  obtain ⟨t111, ha112, H⟩ := bind_some H
  refine cs_ HS Tryz.func36 (laws_eqTurns.runs k x0.f8 A95 c96 A99 c100 x1.f8 A103 c104 A107 c108 t111 _ (HS.getO 3 rfl) le98 (HS.getO 2 rfl) le102 (HS.getO 1 rfl) le106 (HS.getO 0 rfl) le110 ha112) (fun w113 HS => ?_)
  refine nt_ ?_
  refine dn_ hK94 ?_
  rcases eti_ H with ⟨c114, H⟩ | ⟨c114, H⟩
  · refine wy_ (nB (bF c114)) ?_
    refine sr_ fun _ hK116 => ?_
    refine as_ ?_
    refine dn_ hK116 ?_
    cases H
    exact rt1 Tryz.f11 rfl rfl hR_ ⟨rfl, HS.b⟩
  refine wn_ (nB c114) ?_
  refine WC.skip ?_
  refine via_ hK93 ?_
  refine sr_ fun _ hK115 => ?_
  refine as_ ?_
  refine dn_ hK115 ?_
  cases H
  exact rt1 Tryz.f11 rfl rfl hR_ ⟨rfl, HS.b⟩
def spec_PutBack.b0 (x0 : S111) (rec_ : (List Int) → Int → Option ((List Int) × Int)) (k39 : Nat) (xs27 : List Int) (i30 : Int) : Option ((List Int) × Int) := (if i30 < (x0.f1.length : Int) then (if 0 ≤ i30 ∧ i30 < (x0.f1.length : Int) then ((spec_l03Pow.f k39 x0.f0).bind fun t48 => ((spec_l03Clamp.f (wrap64 ((x0.f1.getD i30.toNat 0) * t48)) 127).bind fun t51 => (if (xs27.length) < 4294967296 then (rec_ (xs27 ++ [t51]) (wrap64 (i30 + 1))) else none))) else none) else (some (xs27, i30)))
def spec_PutBack.l0 (x0 : S111) : Nat → (List Int) → Int → Option ((List Int) × Int)
  | 0, _, _ => none
  | k + 1, xs27, i30 => spec_PutBack.b0 x0 (spec_PutBack.l0 x0 k) k xs27 i30
def spec_PutBack.g (k : Nat) (x0 : S111) : Option ((List Int) × Bool) := ((spec_l01In.f x0.f0 0 4).bind fun t9 => (if t9 = true then ((spec_l01In.f (x0.f1.length : Int) 1 8).bind fun t13 => (if t13 = true then ((spec_l05All.f k x0.f1 (-15) 15).bind fun t17 => (if t17 = true then ((spec_PutBack.l0 x0 k ([]) 0).bind (fun o37 => (some (o37.1, true)))) else (some ([], false)))) else (some ([], false)))) else (some ([], false))))
theorem spec_PutBack.runs (k : Nat) (x0 : S111) (A0_1 : Option Addr) (c0_1 : Nat) (r1 : List Int) (r2 : Bool) (w : World) (hr0_1 : (Kd.int .i64).C w A0_1 x0.f1.length x0.f1) (hc0_1 : x0.f1.length ≤ c0_1) (H : spec_PutBack.g k x0 = some (r1, r2)) :
    Calls Tryz.prog 89 #[.agg #[.int .i64 x0.f0, .slice A0_1 x0.f1.length c0_1]] w fun e w' => ∃ (A0_ : Option Addr) (c0_ : Nat), e = .returned (.tuple #[.slice A0_ r1.length c0_, .bool r2]) ∧ r1.length ≤ c0_ ∧ Foot (fun W => (Kd.int .i64).C W A0_ r1.length r1) w' (fun k_ => w.heap.size ≤ k_) ∧ Below w.heap.size w w' := by
  unfold spec_PutBack.g at H
  have HS : St (fun _ => True) w w [] [(fun W => (Kd.int .i64).C W A0_1 x0.f1.length x0.f1)] [] := St.start (foot_cons (foot_C (Kd.heap_int _) hr0_1) foot_nil)
  refine cw_ Tryz.func89 fun R_ hR_ => ?_
  refine sr_ fun _ hK1 => ?_
  refine bo_ HS (fun b2 w3 hb2 HS => ?_)
  refine as_ ?_
  refine as_ ?_
  refine dn_ hK1 ?_
  refine sr_ fun _ hK4 => ?_
  refine WL.lit0 HS rfl rfl (by decide) rfl Tryz.underlying28 (sz := 1) (by kernel_rfl) (fun v5 w6 HS => ?_)
  replace HS := HS.deriveN (p := (fun W => Reps ((Kd.int .i64).K W) (Kd.int .i64).sz ([] : List Int) [])) (fun _ _ => Reps.none _ _)
  refine as_ ?_
  refine dn_ hK4 ?_
  refine WC.seq fun _ hK7 => ?_
  refine sr_ fun _ hK8 => ?_
  refine v_ (fa_ Tryz.underlying111) ?_
  refine v_ (lb_ (HS.mu 1 rfl) Tryz.underlying3 rfl) ?_
  obtain ⟨t9, ha10, H⟩ := bind_some H
  refine cs0_ HS Tryz.func42 (spec_l01In.calls x0.f0 0 4 t9 _ ha10) (fun w11 HS => ?_)
  refine nt_ ?_
  refine mv_ ?_
  rcases eti_ H with ⟨c12, H⟩ | ⟨c12, H⟩
  · refine off_ (c' := true) (nB (bF c12)) ?_
    refine WL.know 11 (nB (bF c12)) ?_
    refine fast_ ?_
    refine via_ hK8 ?_
    refine wy_ rfl ?_
    refine sr_ fun _ hK67 => ?_
    refine fast_ ?_
    refine via_ hK67 ?_
    refine WC.ret ?_
    obtain ⟨A68, c69, rfl⟩ := row_slice (HS.mu 0 rfl)
    have le70 := row_le (HS.mu 0 rfl)
    replace HS := HS.freezeN 0 (p := (fun W => (Kd.int .i64).C W A68 0 ([]))) rfl (fun W_ hm_ h_ => row_C (by simp) hm_ (AllF.get 0 rfl h_))
    cases H
    exact fin2 Tryz.f89 rfl rfl rfl hR_ ⟨_, _, rfl, le70, (foot_fresh (HS.footN 0 rfl)), HS.b⟩
  refine on_ (nB c12) ?_
  refine v_ (fa_ Tryz.underlying111) ?_
  refine on_ (nB c12) ?_
  refine v_ (lb_ (HS.mu 1 rfl) Tryz.underlying28 rfl) ?_
  refine on_ (nB c12) ?_
  refine ln_ Tryz.underlying28 ?_
  refine on_ (nB c12) ?_
  obtain ⟨t13, ha14, H⟩ := bind_some H
  refine cs0_ HS Tryz.func42 (spec_l01In.calls (x0.f1.length : Int) 1 8 t13 _ ha14) (fun w15 HS => ?_)
  refine on_ (nB c12) ?_
  refine nt_ ?_
  refine v_ (Run.pickF rfl rfl (nB c12) rfl) ?_
  refine mv_ ?_
  rcases eti_ H with ⟨c16, H⟩ | ⟨c16, H⟩
  · refine off_ (c' := true) (nB (bF c16)) ?_
    refine WL.know 18 (nB (bF c16)) ?_
    refine fast_ ?_
    refine via_ hK8 ?_
    refine wy_ rfl ?_
    refine sr_ fun _ hK63 => ?_
    refine fast_ ?_
    refine via_ hK63 ?_
    refine WC.ret ?_
    obtain ⟨A64, c65, rfl⟩ := row_slice (HS.mu 0 rfl)
    have le66 := row_le (HS.mu 0 rfl)
    replace HS := HS.freezeN 0 (p := (fun W => (Kd.int .i64).C W A64 0 ([]))) rfl (fun W_ hm_ h_ => row_C (by simp) hm_ (AllF.get 0 rfl h_))
    cases H
    exact fin2 Tryz.f89 rfl rfl rfl hR_ ⟨_, _, rfl, le66, (foot_fresh (HS.footN 0 rfl)), HS.b⟩
  refine on_ (nB c16) ?_
  refine v_ (fa_ Tryz.underlying111) ?_
  refine on_ (nB c16) ?_
  refine v_ (lb_ (HS.mu 1 rfl) Tryz.underlying28 rfl) ?_
  refine on_ (nB c16) ?_
  obtain ⟨t17, ha18, H⟩ := bind_some H
  refine cs0_ HS Tryz.func43 (spec_l05All.calls k A0_1 c0_1 x0.f1 (-15) 15 t17 _ (HS.getO 0 rfl) hc0_1 ha18) (fun w19 HS => ?_)
  refine on_ (nB c16) ?_
  refine nt_ ?_
  refine v_ (Run.pickF rfl rfl (nB c16) rfl) ?_
  refine dn_ hK8 ?_
  rcases eti_ H with ⟨c20, H⟩ | ⟨c20, H⟩
  · refine wy_ (nB (bF c20)) ?_
    refine sr_ fun _ hK59 => ?_
    refine fast_ ?_
    refine via_ hK59 ?_
    refine WC.ret ?_
    obtain ⟨A60, c61, rfl⟩ := row_slice (HS.mu 0 rfl)
    have le62 := row_le (HS.mu 0 rfl)
    replace HS := HS.freezeN 0 (p := (fun W => (Kd.int .i64).C W A60 0 ([]))) rfl (fun W_ hm_ h_ => row_C (by simp) hm_ (AllF.get 0 rfl h_))
    cases H
    exact fin2 Tryz.f89 rfl rfl rfl hR_ ⟨_, _, rfl, le62, (foot_fresh (HS.footN 0 rfl)), HS.b⟩
  refine wn_ (nB c20) ?_
  refine WC.skip ?_
  refine via_ hK7 ?_
  refine WC.seq fun K21 hK21 => ?_
  refine sr_ fun _ hK22 => ?_
  refine as_ ?_
  refine dn_ hK22 ?_
  refine WC.block ?_
  obtain ⟨G23, hG24, o25, H, Ho26⟩ := open_G H
  have X31 : ∀ E_ W_, (∃ (xs27 : List Int) (v28 : Value) (I29 : List Value) (i30 : Int), E_ = [(1, .pointer (some ⟨b2, 0, none⟩)), (4, v28), (5, .int .i64 i30)] ∧ G23 (xs27, i30) = some (r1, r2) ∧ St (fun _ => True) w W_ [rowM w.heap.size 3 1 v28 xs27.length I29, boxM b2 #[.int .i64 x0.f0, .slice A0_1 x0.f1.length c0_1] 111] [(fun W => (Kd.int .i64).C W A0_1 x0.f1.length x0.f1)] [(fun W => Reps ((Kd.int .i64).K W) (Kd.int .i64).sz xs27 I29)]) → ∀ a, Fits a 46 E_ → K21 a W_ := by
    rintro E_ w32 ⟨xs27, v28, I29, i30, rfl, H, HS⟩
    rw [hG24] at H
    (try dsimp only at H)
    refine hK21 _ _ ?_
    refine sr_ fun _ hK33 => ?_
    refine fast_ ?_
    refine via_ hK33 ?_
    refine WC.ret ?_
    obtain ⟨A34, c35, rfl⟩ := row_slice (HS.mu 0 rfl)
    have le36 := row_le (HS.mu 0 rfl)
    replace HS := HS.freezeN 0 (p := (fun W => (Kd.int .i64).C W A34 (xs27).length (xs27))) rfl (fun W_ hm_ h_ => row_C (by rfl) hm_ (AllF.get 0 rfl h_))
    cases H
    exact fin2 Tryz.f89 rfl rfl rfl hR_ ⟨_, _, rfl, le36, (foot_fresh (HS.footN 0 rfl)), HS.b⟩
  refine WC.loop (fun k_ E_ W_ => ∃ (xs27 : List Int) (v28 : Value) (I29 : List Value) (i30 : Int), E_ = [(1, .pointer (some ⟨b2, 0, none⟩)), (4, v28), (5, .int .i64 i30)] ∧ (∃ o_, spec_PutBack.l0 x0 k_ xs27 i30 = some o_ ∧ G23 o_ = some (r1, r2)) ∧ St (fun _ => True) w W_ [rowM w.heap.size 3 1 v28 xs27.length I29, boxM b2 #[.int .i64 x0.f0, .slice A0_1 x0.f1.length c0_1] 111] [(fun W => (Kd.int .i64).C W A0_1 x0.f1.length x0.f1)] [(fun W => Reps ((Kd.int .i64).K W) (Kd.int .i64).sz xs27 I29)]) k ⟨([]), v5, ([]), 0, rfl, ⟨_, H, Ho26⟩, (St.pick HS (fun W_ h_ => ⟨AllF.get 0 rfl h_, trivial⟩) (fun W_ h_ => ⟨AllF.get 0 rfl h_, trivial⟩))⟩ ⟨rfl, rfl, rfl, trivial⟩ ?_
  rintro k_ E_ w38 ⟨xs27, v28, I29, i30, rfl, ⟨o25, H, Ho26⟩, HS⟩
  rcases k_ with _ | k39
  · exact no_ H
  replace H : spec_PutBack.b0 x0 (spec_PutBack.l0 x0 k39) k39 xs27 i30 = some o25 := H
  unfold spec_PutBack.b0 at H
  refine WC.seq fun _ hK40 => ?_
  refine sr_ fun _ hK41 => ?_
  refine mv_ ?_
  refine v_ (fa_ Tryz.underlying111) ?_
  refine v_ (lb_ (HS.mu 1 rfl) Tryz.underlying28 rfl) ?_
  refine ln_ Tryz.underlying28 ?_
  refine b_ bin_lss ?_
  refine dn_ hK41 ?_
  rcases eti_ H with ⟨c42, H⟩ | ⟨c42, H⟩
  · refine wn_ (dF c42) ?_
    refine WC.exit ?_
    cases H
    exact WQ.via2 (fun _ _ h_ => h_) X31 ⟨xs27, v28, I29, i30, rfl, Ho26, (St.pick HS (fun W_ h_ => ⟨AllF.get 0 rfl h_, trivial⟩) (fun W_ h_ => ⟨AllF.get 0 rfl h_, trivial⟩))⟩ ⟨rfl, rfl, rfl, trivial⟩
  refine wy_ (dT c42) ?_
  refine WC.skip ?_
  refine via_ hK40 ?_
  refine WC.seq fun _ hK43 => ?_
  refine WC.block ?_
  refine WC.drawW HS [boxM b2 #[.int .i64 x0.f0, .slice A0_1 x0.f1.length c0_1] 111] (fun _ HS => ⟨(HS.mu 1 rfl), trivial⟩) [] rfl rfl (fun w44 HS => ?_)
  refine dm_ 0 ?_
  refine df_ 1 Tryz.underlying111 ?_
  refine dm_ 3 ?_
  refine df_ 6 Tryz.underlying111 ?_
  refine dt_ 2 ⟨HS.nowO, HS.nowN, ⟨(HS.mu 1 rfl), trivial⟩⟩ (fun w_ hw_ => Run.load rfl rfl Tryz.underlying28 rfl (box_cell hw_.2.2.1 rfl)) ?_
  obtain ⟨⟨q45, q46⟩, H⟩ := if_some H
  obtain ⟨ad47, rfl⟩ := C_open (HS.getO 0 rfl) (by omega)
  refine di_ 4 Tryz.underlying28 1 q45 q46 ?_
  refine dt_ 5 ⟨HS.nowO, HS.nowN, ⟨(HS.mu 1 rfl), trivial⟩⟩ (fun w_ hw_ => Run.load rfl rfl Tryz.underlying3 rfl (int_cell (AllF.get 0 rfl hw_.1) i30 q45 q46)) ?_
  refine dt_ 7 ⟨HS.nowO, HS.nowN, ⟨(HS.mu 1 rfl), trivial⟩⟩ (fun w_ hw_ => Run.load rfl rfl Tryz.underlying3 rfl (box_cell hw_.2.2.1 rfl)) ?_
  obtain ⟨t48, ha49, H⟩ := bind_some H
  refine dc_ 8 (w_none rfl) Tryz.func102 (spec_l03Pow.calls k39 x0.f0 t48 _ ha49) ?_
  rintro _ w50 ⟨rfl, hb⟩
  have hb := hb.below
  replace HS := HS.below hb
  refine ⟨⟨HS.nowO, HS.nowN, ⟨(HS.mu 1 rfl), trivial⟩⟩, _, rfl, ?_⟩
  clear hb
  refine dp_ 9 (fun _ => Run.bin rfl rfl rfl bin_mul64) ?_
  obtain ⟨t51, ha52, H⟩ := bind_some H
  refine dc_ 10 (w_none rfl) Tryz.func101 (spec_l03Clamp.calls (wrap64 ((x0.f1.getD i30.toNat 0) * t48)) 127 t51 _ ha52) ?_
  rintro _ w53 ⟨rfl, hb⟩
  have hb := hb.below
  replace HS := HS.below hb
  refine ⟨⟨HS.nowO, HS.nowN, ⟨(HS.mu 1 rfl), trivial⟩⟩, _, rfl, ?_⟩
  clear hb
  have HS1 := HS.below (below_alloc (Below.refl _ _) (.cells #[.int .i64 t51] 3))
  refine dv_ 11 (w_none rfl) (Run.lit1 (z := (.int .i64 0)) (vs := [.int .i64 t51]) rfl rfl rfl Tryz.underlying28 (by kernel_rfl) (Nat.le_of_ble_eq_true rfl) (Nat.le_of_ble_eq_true rfl)) ⟨HS1.nowO, HS1.nowN, ⟨(HS1.mu 1 rfl), trivial⟩⟩ ?_
  obtain ⟨q54, H⟩ := if_some H
  refine WD.append 12 (w_none rfl) HS1 0 rfl rfl (.int .i64 0) 8 Tryz.underlying28 (by kernel_rfl) rfl (by decide) (by decide) rfl rfl [.int .i64 t51] rfl (lit_news _ _ _) (one_cons rfl one_nil) (by omega) ((xs27 ++ [t51]).length) (by simp) (fun v55 w56 I57 hI58 HS => ?_)
  replace HS := HS.deriveN (p := (fun W => Reps ((Kd.int .i64).K W) (Kd.int .i64).sz (xs27 ++ [t51]) I57)) (fun W_ hN_ => reps_snoc hI58 (AllF.get 0 rfl hN_) (K_int _))
  clear HS1
  refine ⟨⟨HS.nowO, HS.nowN.2, ⟨(HS.mu 1 rfl), trivial⟩⟩, ?_⟩
  refine dp_ 13 (fun _ => Run.assign rfl rfl) ?_
  refine dd_ ?_
  refine via_ hK43 ?_
  refine rg_ ?_
  refine mv_ ?_
  refine b_ bin_add64 ?_
  refine as_ ?_
  refine WL.done ?_
  exact WQ.round k39 (fun _ _ h_ => h_) (Nat.lt_succ_self _) ⟨(xs27 ++ [t51]), v55, I57, (wrap64 (i30 + 1)), rfl, ⟨_, H, Ho26⟩, (St.pick HS (fun W_ h_ => ⟨AllF.get 0 rfl h_, trivial⟩) (fun W_ h_ => ⟨AllF.get 0 rfl h_, trivial⟩))⟩ ⟨rfl, rfl, rfl, trivial⟩
def spec_PartOk.g (k : Nat) (x0 : S111) (a1 : Int) : Option Bool := ((spec_PutBack.g k (⟨x0.f0, x0.f1⟩ : S111)).bind fun t5 => (if t5.2 = true then (some ((x0.f1.length : Int) == a1)) else (some false)))
theorem spec_PartOk.runs (k : Nat) (x0 : S111) (A0_1 : Option Addr) (c0_1 : Nat) (a1 : Int) (r : Bool) (w : World) (hr0_1 : (Kd.int .i64).C w A0_1 x0.f1.length x0.f1) (hc0_1 : x0.f1.length ≤ c0_1) (H : spec_PartOk.g k x0 a1 = some r) :
    Calls Tryz.prog 72 #[.agg #[.int .i64 x0.f0, .slice A0_1 x0.f1.length c0_1], .int .i64 a1] w fun e w' => e = .returned (.bool r) ∧ Below w.heap.size w w' := by
  unfold spec_PartOk.g at H
  have HS : St (fun _ => True) w w [] [(fun W => (Kd.int .i64).C W A0_1 x0.f1.length x0.f1)] [] := St.start (foot_cons (foot_C (Kd.heap_int _) hr0_1) foot_nil)
  refine cw_ Tryz.func72 fun R_ hR_ => ?_
  refine sr_ fun _ hK1 => ?_
  refine bo_ HS (fun b2 w3 hb2 HS => ?_)
  refine as_ ?_
  refine dn_ hK1 ?_
  refine sr_ fun _ hK4 => ?_
  refine v_ (ls_ (HS.mu 0 rfl) Tryz.underlying111 part_all) ?_
  obtain ⟨t5, ha6, H⟩ := bind_some H
  refine c_ Tryz.func89 (spec_PutBack.runs k (⟨x0.f0, x0.f1⟩ : S111) A0_1 c0_1 t5.1 t5.2 _ (HS.getO 0 rfl) hc0_1 ha6) ?_
  rintro _ w7 ⟨A8, c9, rfl, le10, hf11, hb⟩
  replace HS := HS.newNs hb (foot_cons hf11 foot_nil)
  refine ⟨_, rfl, ?_⟩
  clear hb
  refine mv_ ?_
  refine v_ (Run.extract rfl rfl rfl) ?_
  refine v_ (Run.extract rfl rfl rfl) ?_
  refine as_ ?_
  refine as_ ?_
  refine dn_ hK4 ?_
  refine sr_ fun _ hK12 => ?_
  refine mv_ ?_
  refine mv_ ?_
  rcases eti_ H with ⟨c13, H⟩ | ⟨c13, H⟩
  · refine off_ (c' := false) (bF c13) ?_
    refine WL.know 13 (bF c13) ?_
    refine fast_ ?_
    refine via_ hK12 ?_
    cases H
    exact rt1 Tryz.f72 rfl rfl hR_ ⟨rfl, HS.b⟩
  refine on_ c13 ?_
  refine v_ (fa_ Tryz.underlying111) ?_
  refine on_ c13 ?_
  refine v_ (lb_ (HS.mu 0 rfl) Tryz.underlying28 rfl) ?_
  refine on_ c13 ?_
  refine ln_ Tryz.underlying28 ?_
  refine on_ c13 ?_
  refine mv_ ?_
  refine on_ c13 ?_
  refine b_ bin_eql ?_
  refine v_ (Run.pickT rfl rfl c13 rfl) ?_
  refine as_ ?_
  refine dn_ hK12 ?_
  cases H
  exact rt1 Tryz.f72 rfl rfl hR_ ⟨rfl, HS.b⟩
def spec_l14Parts.b1 (l0 : List (List S111)) (x1 : S47) (i17 : Int) (rec_ : Int → Option (Bool ⊕ Int)) (k48 : Nat) (i43 : Int) : Option (Bool ⊕ Int) := (if i43 < ((l0.getD i17.toNat []).length : Int) then (if 0 ≤ i43 ∧ i43 < ((l0.getD i17.toNat []).length : Int) then (if x1.f1 ≠ 0 then ((spec_PartOk.g k48 ((l0.getD i17.toNat []).getD i43.toNat o111) (wrap64 (Int.tdiv x1.f0 x1.f1))).bind fun t68 => (if t68 = true then (rec_ (wrap64 (i43 + 1))) else (some (Sum.inl false)))) else none) else none) else (some (Sum.inr i43)))
def spec_l14Parts.l1 (l0 : List (List S111)) (x1 : S47) (i17 : Int) : Nat → Int → Option (Bool ⊕ Int)
  | 0, _ => none
  | k + 1, i43 => spec_l14Parts.b1 l0 x1 i17 (spec_l14Parts.l1 l0 x1 i17 k) k i43
def spec_l14Parts.b0 (l0 : List (List S111)) (x1 : S47) (rec_ : Int → Option (Bool ⊕ Int)) (k23 : Nat) (i17 : Int) : Option (Bool ⊕ Int) := (if i17 < (l0.length : Int) then (if 0 ≤ i17 ∧ i17 < (l0.length : Int) then (if ((l0.getD i17.toNat []).length : Int) = x1.f1 then ((spec_l14Parts.l1 l0 x1 i17 k23 0).bind (fun o46 => match o46 with | .inl r_ => some (Sum.inl r_) | .inr i43 => (rec_ (wrap64 (i17 + 1))))) else (some (Sum.inl false))) else none) else (some (Sum.inr i17)))
def spec_l14Parts.l0 (l0 : List (List S111)) (x1 : S47) : Nat → Int → Option (Bool ⊕ Int)
  | 0, _ => none
  | k + 1, i17 => spec_l14Parts.b0 l0 x1 (spec_l14Parts.l0 l0 x1 k) k i17
def spec_l14Parts.g (k : Nat) (l0 : List (List S111)) (x1 : S47) : Option Bool := (if (l0.length : Int) = (x1.f5.length : Int) then ((spec_l14Parts.l0 l0 x1 k 0).bind (fun o21 => match o21 with | .inl r_ => some r_ | .inr i17 => (some true))) else (some false))
theorem spec_l14Parts.runs (k : Nat) (A0 : Option Addr) (c0 : Nat) (l0 : List (List S111)) (cs1 : List Value) (x1 : S47) (r : Bool) (w : World) (hr0 : (Kd.slice 111 k111).C w A0 l0.length l0) (hc0 : l0.length ≤ c0) (hk1 : k47.K w x1 cs1) (H : spec_l14Parts.g k l0 x1 = some r) :
    Calls Tryz.prog 48 #[.slice A0 l0.length c0, .agg cs1.toArray] w fun e w' => e = .returned (.bool r) ∧ Below w.heap.size w w' := by
  have el1 : cs1.length = 14 := k47.K_len hk1
  unfold spec_l14Parts.g at H
  have HS : St (fun _ => True) w w [] [(fun W => (Kd.slice 111 k111).C W A0 l0.length l0), (fun W => k47.K W x1 cs1)] [] := St.start (foot_cons (foot_C (Kd.heap_slice _ h111) hr0) (foot_cons (foot_K h47 hk1) foot_nil))
  refine cw_ Tryz.func48 fun R_ hR_ => ?_
  refine sr_ fun _ hK1 => ?_
  refine bo_ HS (fun b2 w3 hb2 HS => ?_)
  refine as_ ?_
  refine dn_ hK1 ?_
  refine WC.seq fun _ hK4 => ?_
  refine sr_ fun _ hK5 => ?_
  refine mv_ ?_
  refine ln_ Tryz.underlying38 ?_
  refine v_ (fa_ Tryz.underlying47) ?_
  obtain ⟨A6, c7, hc8, le9, HS⟩ := HS.sO 1 rfl at47_5
  refine v_ (lb_ (HS.mu 0 rfl) Tryz.underlying43 hc8) ?_
  refine ln_ Tryz.underlying43 ?_
  refine b_ bin_neq ?_
  refine dn_ hK5 ?_
  rcases eti_ H with ⟨c10, H⟩ | ⟨c10, H⟩
  · refine wy_ (qT c10) ?_
    refine sr_ fun _ hK74 => ?_
    refine as_ ?_
    refine dn_ hK74 ?_
    cases H
    exact rt1 Tryz.f48 rfl rfl hR_ ⟨rfl, HS.b⟩
  refine wn_ (qF c10) ?_
  refine WC.skip ?_
  refine via_ hK4 ?_
  refine WC.seq fun K11 hK11 => ?_
  refine sr_ fun _ hK12 => ?_
  refine as_ ?_
  refine dn_ hK12 ?_
  refine WC.block ?_
  obtain ⟨G13, hG14, o15, H, Ho16⟩ := open_G H
  have X18 : ∀ E_ W_, (∃ (i17 : Int), E_ = [(0, .slice A0 l0.length c0), (3, .pointer (some ⟨b2, 0, none⟩)), (5, .int .i64 i17)] ∧ G13 (Sum.inr i17) = some r ∧ St (fun _ => True) w W_ [boxM b2 cs1.toArray 47] [(fun W => k86.C W A6 x1.f5.length x1.f5), (fun W => (Kd.slice 111 k111).C W A0 l0.length l0), (fun W => k47.K W x1 cs1)] []) → ∀ a, Fits a 50 E_ → K11 a W_ := by
    rintro E_ w19 ⟨i17, rfl, H, HS⟩
    rw [hG14] at H
    (try dsimp only at H)
    refine hK11 _ _ ?_
    refine sr_ fun _ hK20 => ?_
    refine as_ ?_
    refine dn_ hK20 ?_
    cases H
    exact rt1 Tryz.f48 rfl rfl hR_ ⟨rfl, HS.b⟩
  refine WC.loop (fun k_ E_ W_ => ∃ (i17 : Int), E_ = [(0, .slice A0 l0.length c0), (3, .pointer (some ⟨b2, 0, none⟩)), (5, .int .i64 i17)] ∧ (∃ o_, spec_l14Parts.l0 l0 x1 k_ i17 = some o_ ∧ G13 o_ = some r) ∧ St (fun _ => True) w W_ [boxM b2 cs1.toArray 47] [(fun W => k86.C W A6 x1.f5.length x1.f5), (fun W => (Kd.slice 111 k111).C W A0 l0.length l0), (fun W => k47.K W x1 cs1)] []) k ⟨0, rfl, ⟨_, H, Ho16⟩, (St.pick HS (fun W_ h_ => ⟨AllF.get 0 rfl h_, AllF.get 1 rfl h_, AllF.get 2 rfl h_, trivial⟩) (fun W_ h_ => trivial))⟩ ⟨rfl, rfl, rfl, trivial⟩ ?_
  rintro k_ E_ w22 ⟨i17, rfl, ⟨o15, H, Ho16⟩, HS⟩
  rcases k_ with _ | k23
  · exact no_ H
  replace H : spec_l14Parts.b0 l0 x1 (spec_l14Parts.l0 l0 x1 k23) k23 i17 = some o15 := H
  unfold spec_l14Parts.b0 at H
  refine WC.seq fun _ hK24 => ?_
  refine sr_ fun _ hK25 => ?_
  refine mv_ ?_
  refine mv_ ?_
  refine ln_ Tryz.underlying38 ?_
  refine b_ bin_lss ?_
  refine dn_ hK25 ?_
  rcases eti_ H with ⟨c26, H⟩ | ⟨c26, H⟩
  · refine wn_ (dF c26) ?_
    refine WC.exit ?_
    cases H
    exact WQ.via2 (fun _ _ h_ => h_) X18 ⟨i17, rfl, Ho16, (St.pick HS (fun W_ h_ => ⟨AllF.get 0 rfl h_, AllF.get 1 rfl h_, AllF.get 2 rfl h_, trivial⟩) (fun W_ h_ => trivial))⟩ ⟨rfl, rfl, rfl, trivial⟩
  refine wy_ (dT c26) ?_
  refine WC.skip ?_
  refine via_ hK24 ?_
  refine WC.seq fun K27 hK27 => ?_
  refine WC.block ?_
  refine WC.seq fun _ hK28 => ?_
  refine WC.seq fun _ hK29 => ?_
  refine WC.drawS HS [] rfl rfl (fun w30 HS => ?_)
  have HB := Below.refl w30.heap.size w30
  have HSW := HS
  refine dm_ 0 ?_
  refine dm_ 1 ?_
  obtain ⟨⟨q31, q32⟩, H⟩ := if_some H
  obtain ⟨ad33, rfl⟩ := C_open (HS.getO 1 rfl) (by omega)
  refine di_ 2 Tryz.underlying38 1 q31 q32 ?_
  refine df_ 5 Tryz.underlying47 ?_
  obtain ⟨A34, c35, le36, HS⟩ := HS.slO 1 rfl i17 q31 q32
  refine dt_ 3 (Below.refl _ _) (fun w_ hw_ => Run.load rfl rfl Tryz.underlying91 rfl ((HS.below hw_).getO 1 rfl)) ?_
  refine dp_ 4 (fun _ => Run.len (ts := #[]) rfl Tryz.underlying91 rfl) ?_
  refine bl_ 6 HS (Below.refl _ _) 0 Tryz.underlying3 (at47_1 (HS.aO 4 rfl)).int ?_
  refine dp_ 7 (fun _ => Run.bin rfl rfl rfl bin_neq) ?_
  refine dd_ ?_
  clear HB HSW
  refine via_ hK29 ?_
  rcases eti_ H with ⟨c37, H⟩ | ⟨c37, H⟩
  · refine wy_ (qT c37) ?_
    refine sr_ fun _ hK73 => ?_
    refine as_ ?_
    refine dn_ hK73 ?_
    refine WC.ret ?_
    cases H
    rw [hG14] at Ho16
    replace H : some _ = some _ := Ho16
    cases H
    exact fin1 Tryz.f48 rfl rfl hR_ ⟨rfl, HS.b⟩
  refine wn_ (qF c37) ?_
  refine WC.skip ?_
  refine via_ hK28 ?_
  refine sr_ fun _ hK38 => ?_
  refine as_ ?_
  refine dn_ hK38 ?_
  refine WC.block ?_
  obtain ⟨G39, hG40, o41, H, Ho42⟩ := open_G H
  have X44 : ∀ E_ W_, (∃ (i43 : Int), E_ = [(0, .slice (some ad33) l0.length c0), (3, .pointer (some ⟨b2, 0, none⟩)), (5, .int .i64 i17), (6, .int .i64 i43)] ∧ G39 (Sum.inr i43) = some o15 ∧ St (fun _ => True) w W_ [boxM b2 cs1.toArray 47] [(fun W => k86.C W A6 x1.f5.length x1.f5), (fun W => (Kd.slice 111 k111).C W (some ad33) l0.length l0), (fun W => k47.K W x1 cs1)] []) → ∀ a, Fits a 50 E_ → K27 a W_ := by
    rintro E_ w45 ⟨i43, rfl, H, HS⟩
    rw [hG40] at H
    (try dsimp only at H)
    refine hK27 _ _ ?_
    refine rg_ ?_
    refine mv_ ?_
    refine b_ bin_add64 ?_
    refine as_ ?_
    refine WL.done ?_
    exact WQ.round k23 (fun _ _ h_ => h_) (Nat.lt_succ_self _) ⟨(wrap64 (i17 + 1)), rfl, ⟨_, H, Ho16⟩, (St.pick HS (fun W_ h_ => ⟨AllF.get 0 rfl h_, AllF.get 1 rfl h_, AllF.get 2 rfl h_, trivial⟩) (fun W_ h_ => trivial))⟩ ⟨rfl, rfl, rfl, trivial⟩
  refine WC.loop (fun k_ E_ W_ => ∃ (i43 : Int), E_ = [(0, .slice (some ad33) l0.length c0), (3, .pointer (some ⟨b2, 0, none⟩)), (5, .int .i64 i17), (6, .int .i64 i43)] ∧ (∃ o_, spec_l14Parts.l1 l0 x1 i17 k_ i43 = some o_ ∧ G39 o_ = some o15) ∧ St (fun _ => True) w W_ [boxM b2 cs1.toArray 47] [(fun W => k86.C W A6 x1.f5.length x1.f5), (fun W => (Kd.slice 111 k111).C W (some ad33) l0.length l0), (fun W => k47.K W x1 cs1)] []) k23 ⟨0, rfl, ⟨_, H, Ho42⟩, (St.pick HS (fun W_ h_ => ⟨AllF.get 2 rfl h_, AllF.get 3 rfl h_, AllF.get 4 rfl h_, trivial⟩) (fun W_ h_ => trivial))⟩ ⟨rfl, rfl, rfl, rfl, trivial⟩ ?_
  rintro k_ E_ w47 ⟨i43, rfl, ⟨o41, H, Ho42⟩, HS⟩
  rcases k_ with _ | k48
  · exact no_ H
  replace H : spec_l14Parts.b1 l0 x1 i17 (spec_l14Parts.l1 l0 x1 i17 k48) k48 i43 = some o41 := H
  unfold spec_l14Parts.b1 at H
  refine WC.seq fun _ hK49 => ?_
  refine sr_ fun _ hK50 => ?_
  refine mv_ ?_
  refine mv_ ?_
  refine mv_ ?_
  refine v_ (ia_ Tryz.underlying38 1 q31 q32) ?_
  obtain ⟨A51, c52, le53, HS⟩ := HS.slO 1 rfl i17 q31 q32
  refine v_ (Run.load rfl rfl Tryz.underlying91 rfl (HS.getO 1 rfl)) ?_
  refine ln_ Tryz.underlying91 ?_
  refine b_ bin_lss ?_
  refine dn_ hK50 ?_
  rcases eti_ H with ⟨c54, H⟩ | ⟨c54, H⟩
  · refine wn_ (dF c54) ?_
    refine WC.exit ?_
    cases H
    exact WQ.via2 (fun _ _ h_ => h_) X44 ⟨i43, rfl, Ho42, (St.pick HS (fun W_ h_ => ⟨AllF.get 2 rfl h_, AllF.get 3 rfl h_, AllF.get 4 rfl h_, trivial⟩) (fun W_ h_ => trivial))⟩ ⟨rfl, rfl, rfl, rfl, trivial⟩
  refine wy_ (dT c54) ?_
  refine WC.skip ?_
  refine via_ hK49 ?_
  refine WC.seq fun _ hK55 => ?_
  refine WC.block ?_
  refine WC.seq fun _ hK56 => ?_
  refine WC.drawS HS [] rfl rfl (fun w57 HS => ?_)
  have HB := Below.refl w57.heap.size w57
  have HSW := HS
  refine dm_ 0 ?_
  refine dm_ 1 ?_
  refine di_ 2 Tryz.underlying38 1 q31 q32 ?_
  refine dm_ 4 ?_
  refine df_ 7 Tryz.underlying47 ?_
  refine df_ 9 Tryz.underlying47 ?_
  refine dt_ 3 (Below.refl _ _) (fun w_ hw_ => Run.load rfl rfl Tryz.underlying91 rfl ((HS.below hw_).getO 1 rfl)) ?_
  obtain ⟨⟨q58, q59⟩, H⟩ := if_some H
  obtain ⟨ad60, rfl⟩ := C_open (HS.getO 0 rfl) (by omega)
  refine di_ 5 Tryz.underlying91 2 q58 q59 ?_
  obtain ⟨e61, el62, HS⟩ := HS.elO 0 rfl (by decide) o111 i43 q58 q59
  obtain ⟨A63, c64, hc65, le66, HS⟩ := HS.eO 0 rfl at111_1
  refine dt_ 6 (Below.refl _ _) (fun w_ hw_ => Run.loadS (cs := [.int .i64 (((l0.getD i17.toNat []).getD i43.toNat o111).f0), .slice A63 (((l0.getD i17.toNat []).getD i43.toNat o111).f1.length) c64]) rfl rfl Tryz.underlying111 rfl (by kernel_rfl) (cells_part ((HS.below hw_).getO 1 rfl).2 (part_cons (at111_0 (AtK.whole ((HS.below hw_).getO 1 rfl).1)).int (part_cons hc65 part_nil)))) ?_
  refine bl_ 8 HS (Below.refl _ _) 0 Tryz.underlying3 (at47_0 (HS.aO 6 rfl)).int ?_
  refine bl_ 10 HS (Below.refl _ _) 0 Tryz.underlying3 (at47_1 (HS.aO 6 rfl)).int ?_
  obtain ⟨z67, H⟩ := if_some H
  refine dp_ 11 (fun _ => Run.bin rfl rfl rfl (bin_quo64 z67)) ?_
  obtain ⟨t68, ha69, H⟩ := bind_some H
  refine dcs_ HS HB 12 (w_none rfl) Tryz.func72 (spec_PartOk.runs k48 ((l0.getD i17.toNat []).getD i43.toNat o111) A63 c64 (wrap64 (Int.tdiv x1.f0 x1.f1)) t68 _ (HS.getO 0 rfl) le66 ha69) (fun w70 HS HB => ?_)
  refine dp_ 13 (fun _ => Run.not rfl rfl) ?_
  refine dd_ ?_
  clear HB HSW
  refine via_ hK56 ?_
  rcases eti_ H with ⟨c71, H⟩ | ⟨c71, H⟩
  · refine wy_ (nB (bF c71)) ?_
    refine sr_ fun _ hK72 => ?_
    refine as_ ?_
    refine dn_ hK72 ?_
    refine WC.ret ?_
    cases H
    rw [hG40] at Ho42
    replace H : some _ = some _ := Ho42
    cases H
    rw [hG14] at Ho16
    replace H : some _ = some _ := Ho16
    cases H
    exact fin1 Tryz.f48 rfl rfl hR_ ⟨rfl, HS.b⟩
  refine wn_ (nB c71) ?_
  refine WC.skip ?_
  refine via_ hK55 ?_
  refine rg_ ?_
  refine mv_ ?_
  refine b_ bin_add64 ?_
  refine as_ ?_
  refine WL.done ?_
  exact WQ.round k48 (fun _ _ h_ => h_) (Nat.lt_succ_self _) ⟨(wrap64 (i43 + 1)), rfl, ⟨_, H, Ho42⟩, (St.pick HS (fun W_ h_ => ⟨AllF.get 4 rfl h_, AllF.get 5 rfl h_, AllF.get 6 rfl h_, trivial⟩) (fun W_ h_ => trivial))⟩ ⟨rfl, rfl, rfl, rfl, trivial⟩
def spec_l14Cell.g (k : Nat) (x0 : S40) (x1 : S47) : Option Bool := ((spec_l14Parts.g k x0.f0 x1).bind fun t7 => (if t7 = true then ((spec_l14Parts.g k x0.f1 x1).bind fun t11 => (some t11)) else (some false)))
theorem spec_l14Cell.runs (k : Nat) (x0 : S40) (A0_0 : Option Addr) (c0_0 : Nat) (A0_1 : Option Addr) (c0_1 : Nat) (cs1 : List Value) (x1 : S47) (r : Bool) (w : World) (hr0_0 : (Kd.slice 111 k111).C w A0_0 x0.f0.length x0.f0) (hc0_0 : x0.f0.length ≤ c0_0) (hr0_1 : (Kd.slice 111 k111).C w A0_1 x0.f1.length x0.f1) (hc0_1 : x0.f1.length ≤ c0_1) (hk1 : k47.K w x1 cs1) (H : spec_l14Cell.g k x0 x1 = some r) :
    Calls Tryz.prog 20 #[.agg #[.slice A0_0 x0.f0.length c0_0, .slice A0_1 x0.f1.length c0_1], .agg cs1.toArray] w fun e w' => e = .returned (.bool r) ∧ Below w.heap.size w w' := by
  have el1 : cs1.length = 14 := k47.K_len hk1
  unfold spec_l14Cell.g at H
  have HS : St (fun _ => True) w w [] [(fun W => (Kd.slice 111 k111).C W A0_0 x0.f0.length x0.f0), (fun W => (Kd.slice 111 k111).C W A0_1 x0.f1.length x0.f1), (fun W => k47.K W x1 cs1)] [] := St.start (foot_cons (foot_C (Kd.heap_slice _ h111) hr0_0) (foot_cons (foot_C (Kd.heap_slice _ h111) hr0_1) (foot_cons (foot_K h47 hk1) foot_nil)))
  refine cw_ Tryz.func20 fun R_ hR_ => ?_
  refine sr_ fun _ hK1 => ?_
  refine bo_ HS (fun b2 w3 hb2 HS => ?_)
  refine bo_ HS (fun b4 w5 hb4 HS => ?_)
  refine as_ ?_
  refine dn_ hK1 ?_
  refine sr_ fun _ hK6 => ?_
  refine v_ (fa_ Tryz.underlying40) ?_
  refine v_ (lb_ (HS.mu 1 rfl) Tryz.underlying38 rfl) ?_
  refine v_ (Run.loadS (cs := cs1) rfl rfl Tryz.underlying47 rfl (by rw [el1]; kernel_rfl) (box_part (HS.mu 0 rfl) part_all)) ?_
  obtain ⟨t7, ha8, H⟩ := bind_some H
  refine cs_ HS Tryz.func48 (spec_l14Parts.runs k A0_0 c0_0 x0.f0 cs1 x1 t7 _ (HS.getO 0 rfl) hc0_0 (HS.getO 2 rfl) ha8) (fun w9 HS => ?_)
  refine mv_ ?_
  rcases eti_ H with ⟨c10, H⟩ | ⟨c10, H⟩
  · refine off_ (c' := false) (bF c10) ?_
    refine WL.know 9 (bF c10) ?_
    refine fast_ ?_
    refine via_ hK6 ?_
    cases H
    exact rt1 Tryz.f20 rfl rfl hR_ ⟨rfl, HS.b⟩
  refine on_ c10 ?_
  refine v_ (fa_ Tryz.underlying40) ?_
  refine on_ c10 ?_
  refine v_ (lb_ (HS.mu 1 rfl) Tryz.underlying38 rfl) ?_
  refine on_ c10 ?_
  refine v_ (Run.loadS (cs := cs1) rfl rfl Tryz.underlying47 rfl (by rw [el1]; kernel_rfl) (box_part (HS.mu 0 rfl) part_all)) ?_
  refine on_ c10 ?_
  obtain ⟨t11, ha12, H⟩ := bind_some H
  refine cs_ HS Tryz.func48 (spec_l14Parts.runs k A0_1 c0_1 x0.f1 cs1 x1 t11 _ (HS.getO 1 rfl) hc0_1 (HS.getO 2 rfl) ha12) (fun w13 HS => ?_)
  refine v_ (Run.pickT rfl rfl c10 rfl) ?_
  refine as_ ?_
  refine dn_ hK6 ?_
  cases H
  exact rt1 Tryz.f20 rfl rfl hR_ ⟨rfl, HS.b⟩
def laws_eqPart.g (k : Nat) (x0 : S111) (x1 : S111) : Option Bool := (if x0.f0 = x1.f0 then ((laws_eqIntS.f k x0.f1 x1.f1).bind fun t11 => (if t11 = true then (some true) else (some false))) else (some false))
theorem laws_eqPart.runs (k : Nat) (x0 : S111) (A0_1 : Option Addr) (c0_1 : Nat) (x1 : S111) (A1_1 : Option Addr) (c1_1 : Nat) (r : Bool) (w : World) (hr0_1 : (Kd.int .i64).C w A0_1 x0.f1.length x0.f1) (hc0_1 : x0.f1.length ≤ c0_1) (hr1_1 : (Kd.int .i64).C w A1_1 x1.f1.length x1.f1) (hc1_1 : x1.f1.length ≤ c1_1) (H : laws_eqPart.g k x0 x1 = some r) :
    Calls Tryz.prog 86 #[.agg #[.int .i64 x0.f0, .slice A0_1 x0.f1.length c0_1], .agg #[.int .i64 x1.f0, .slice A1_1 x1.f1.length c1_1]] w fun e w' => e = .returned (.bool r) ∧ Below w.heap.size w w' := by
  unfold laws_eqPart.g at H
  have HS : St (fun _ => True) w w [] [(fun W => (Kd.int .i64).C W A0_1 x0.f1.length x0.f1), (fun W => (Kd.int .i64).C W A1_1 x1.f1.length x1.f1)] [] := St.start (foot_cons (foot_C (Kd.heap_int _) hr0_1) (foot_cons (foot_C (Kd.heap_int _) hr1_1) foot_nil))
  refine cw_ Tryz.func86 fun R_ hR_ => ?_
  refine sr_ fun _ hK1 => ?_
  refine bo_ HS (fun b2 w3 hb2 HS => ?_)
  refine bo_ HS (fun b4 w5 hb4 HS => ?_)
  refine as_ ?_
  refine dn_ hK1 ?_
  refine WC.seq fun _ hK6 => ?_
  refine sr_ fun _ hK7 => ?_
  refine v_ (fa_ Tryz.underlying111) ?_
  refine v_ (lb_ (HS.mu 1 rfl) Tryz.underlying3 rfl) ?_
  refine v_ (fa_ Tryz.underlying111) ?_
  refine v_ (lb_ (HS.mu 0 rfl) Tryz.underlying3 rfl) ?_
  refine b_ bin_neq ?_
  refine dn_ hK7 ?_
  rcases eti_ H with ⟨c8, H⟩ | ⟨c8, H⟩
  · refine wy_ (qT c8) ?_
    refine sr_ fun _ hK17 => ?_
    refine as_ ?_
    refine dn_ hK17 ?_
    cases H
    exact rt1 Tryz.f86 rfl rfl hR_ ⟨rfl, HS.b⟩
  refine wn_ (qF c8) ?_
  refine WC.skip ?_
  refine via_ hK6 ?_
  refine WC.seq fun _ hK9 => ?_
  refine sr_ fun _ hK10 => ?_
  refine v_ (fa_ Tryz.underlying111) ?_
  refine v_ (lb_ (HS.mu 1 rfl) Tryz.underlying28 rfl) ?_
  refine v_ (fa_ Tryz.underlying111) ?_
  refine v_ (lb_ (HS.mu 0 rfl) Tryz.underlying28 rfl) ?_
  obtain ⟨t11, ha12, H⟩ := bind_some H
  refine cs0_ HS Tryz.func34 (laws_eqIntS.calls k A0_1 c0_1 x0.f1 A1_1 c1_1 x1.f1 t11 _ (HS.getO 0 rfl) hc0_1 (HS.getO 1 rfl) hc1_1 ha12) (fun w13 HS => ?_)
  refine nt_ ?_
  refine dn_ hK10 ?_
  rcases eti_ H with ⟨c14, H⟩ | ⟨c14, H⟩
  · refine wy_ (nB (bF c14)) ?_
    refine sr_ fun _ hK16 => ?_
    refine as_ ?_
    refine dn_ hK16 ?_
    cases H
    exact rt1 Tryz.f86 rfl rfl hR_ ⟨rfl, HS.b⟩
  refine wn_ (nB c14) ?_
  refine WC.skip ?_
  refine via_ hK9 ?_
  refine sr_ fun _ hK15 => ?_
  refine as_ ?_
  refine dn_ hK15 ?_
  cases H
  exact rt1 Tryz.f86 rfl rfl hR_ ⟨rfl, HS.b⟩
def laws_eqPartS.b0 (l0 : List S111) (l1 : List S111) (rec_ : Int → Option (Bool ⊕ Int)) (k17 : Nat) (i11 : Int) : Option (Bool ⊕ Int) := (if i11 < (l0.length : Int) then (if 0 ≤ i11 ∧ i11 < (l0.length : Int) then (if 0 ≤ i11 ∧ i11 < (l1.length : Int) then ((laws_eqPart.g k17 (l0.getD i11.toNat o111) (l1.getD i11.toNat o111)).bind fun t42 => (if t42 = true then (rec_ (wrap64 (i11 + 1))) else (some (Sum.inl false)))) else none) else none) else (some (Sum.inr i11)))
def laws_eqPartS.l0 (l0 : List S111) (l1 : List S111) : Nat → Int → Option (Bool ⊕ Int)
  | 0, _ => none
  | k + 1, i11 => laws_eqPartS.b0 l0 l1 (laws_eqPartS.l0 l0 l1 k) k i11
def laws_eqPartS.g (k : Nat) (l0 : List S111) (l1 : List S111) : Option Bool := (if (l0.length : Int) = (l1.length : Int) then ((laws_eqPartS.l0 l0 l1 k 0).bind (fun o15 => match o15 with | .inl r_ => some r_ | .inr i11 => (some true))) else (some false))
theorem laws_eqPartS.runs (k : Nat) (A0 : Option Addr) (c0 : Nat) (l0 : List S111) (A1 : Option Addr) (c1 : Nat) (l1 : List S111) (r : Bool) (w : World) (hr0 : k111.C w A0 l0.length l0) (hc0 : l0.length ≤ c0) (hr1 : k111.C w A1 l1.length l1) (hc1 : l1.length ≤ c1) (H : laws_eqPartS.g k l0 l1 = some r) :
    Calls Tryz.prog 66 #[.slice A0 l0.length c0, .slice A1 l1.length c1] w fun e w' => e = .returned (.bool r) ∧ Below w.heap.size w w' := by
  unfold laws_eqPartS.g at H
  have HS : St (fun _ => True) w w [] [(fun W => k111.C W A0 l0.length l0), (fun W => k111.C W A1 l1.length l1)] [] := St.start (foot_cons (foot_C h111 hr0) (foot_cons (foot_C h111 hr1) foot_nil))
  refine cw_ Tryz.func66 fun R_ hR_ => ?_
  refine sr_ fun _ hK1 => ?_
  refine as_ ?_
  refine dn_ hK1 ?_
  refine WC.seq fun _ hK2 => ?_
  refine sr_ fun _ hK3 => ?_
  refine mv_ ?_
  refine ln_ Tryz.underlying91 ?_
  refine mv_ ?_
  refine ln_ Tryz.underlying91 ?_
  refine b_ bin_neq ?_
  refine dn_ hK3 ?_
  rcases eti_ H with ⟨c4, H⟩ | ⟨c4, H⟩
  · refine wy_ (qT c4) ?_
    refine sr_ fun _ hK47 => ?_
    refine as_ ?_
    refine dn_ hK47 ?_
    cases H
    exact rt1 Tryz.f66 rfl rfl hR_ ⟨rfl, HS.b⟩
  refine wn_ (qF c4) ?_
  refine WC.skip ?_
  refine via_ hK2 ?_
  refine WC.seq fun K5 hK5 => ?_
  refine sr_ fun _ hK6 => ?_
  refine as_ ?_
  refine dn_ hK6 ?_
  refine WC.block ?_
  obtain ⟨G7, hG8, o9, H, Ho10⟩ := open_G H
  have X12 : ∀ E_ W_, (∃ (i11 : Int), E_ = [(0, .slice A0 l0.length c0), (1, .slice A1 l1.length c1), (5, .int .i64 i11)] ∧ G7 (Sum.inr i11) = some r ∧ St (fun _ => True) w W_ [] [(fun W => k111.C W A0 l0.length l0), (fun W => k111.C W A1 l1.length l1)] []) → ∀ a, Fits a 27 E_ → K5 a W_ := by
    rintro E_ w13 ⟨i11, rfl, H, HS⟩
    rw [hG8] at H
    (try dsimp only at H)
    refine hK5 _ _ ?_
    refine sr_ fun _ hK14 => ?_
    refine as_ ?_
    refine dn_ hK14 ?_
    cases H
    exact rt1 Tryz.f66 rfl rfl hR_ ⟨rfl, HS.b⟩
  refine WC.loop (fun k_ E_ W_ => ∃ (i11 : Int), E_ = [(0, .slice A0 l0.length c0), (1, .slice A1 l1.length c1), (5, .int .i64 i11)] ∧ (∃ o_, laws_eqPartS.l0 l0 l1 k_ i11 = some o_ ∧ G7 o_ = some r) ∧ St (fun _ => True) w W_ [] [(fun W => k111.C W A0 l0.length l0), (fun W => k111.C W A1 l1.length l1)] []) k ⟨0, rfl, ⟨_, H, Ho10⟩, (St.pick HS (fun W_ h_ => ⟨AllF.get 0 rfl h_, AllF.get 1 rfl h_, trivial⟩) (fun W_ h_ => trivial))⟩ ⟨rfl, rfl, rfl, trivial⟩ ?_
  rintro k_ E_ w16 ⟨i11, rfl, ⟨o9, H, Ho10⟩, HS⟩
  rcases k_ with _ | k17
  · exact no_ H
  replace H : laws_eqPartS.b0 l0 l1 (laws_eqPartS.l0 l0 l1 k17) k17 i11 = some o9 := H
  unfold laws_eqPartS.b0 at H
  refine WC.seq fun _ hK18 => ?_
  refine sr_ fun _ hK19 => ?_
  refine mv_ ?_
  refine mv_ ?_
  refine ln_ Tryz.underlying91 ?_
  refine b_ bin_lss ?_
  refine dn_ hK19 ?_
  rcases eti_ H with ⟨c20, H⟩ | ⟨c20, H⟩
  · refine wn_ (dF c20) ?_
    refine WC.exit ?_
    cases H
    exact WQ.via2 (fun _ _ h_ => h_) X12 ⟨i11, rfl, Ho10, (St.pick HS (fun W_ h_ => ⟨AllF.get 0 rfl h_, AllF.get 1 rfl h_, trivial⟩) (fun W_ h_ => trivial))⟩ ⟨rfl, rfl, rfl, trivial⟩
  refine wy_ (dT c20) ?_
  refine WC.skip ?_
  refine via_ hK18 ?_
  refine WC.seq fun _ hK21 => ?_
  refine WC.block ?_
  refine WC.seq fun _ hK22 => ?_
  refine WC.drawS HS [] rfl rfl (fun w23 HS => ?_)
  have HB := Below.refl w23.heap.size w23
  have HSW := HS
  refine dm_ 0 ?_
  refine dm_ 1 ?_
  obtain ⟨⟨q24, q25⟩, H⟩ := if_some H
  obtain ⟨ad26, rfl⟩ := C_open (HS.getO 0 rfl) (by omega)
  refine di_ 2 Tryz.underlying91 2 q24 q25 ?_
  refine dm_ 4 ?_
  refine dm_ 5 ?_
  obtain ⟨⟨q27, q28⟩, H⟩ := if_some H
  obtain ⟨ad29, rfl⟩ := C_open (HS.getO 1 rfl) (by omega)
  refine di_ 6 Tryz.underlying91 2 q27 q28 ?_
  obtain ⟨e30, el31, HS⟩ := HS.elO 0 rfl (by decide) o111 i11 q24 q25
  obtain ⟨A32, c33, hc34, le35, HS⟩ := HS.eO 0 rfl at111_1
  refine dt_ 3 (Below.refl _ _) (fun w_ hw_ => Run.loadS (cs := [.int .i64 ((l0.getD i11.toNat o111).f0), .slice A32 ((l0.getD i11.toNat o111).f1.length) c33]) rfl rfl Tryz.underlying111 rfl (by kernel_rfl) (cells_part ((HS.below hw_).getO 1 rfl).2 (part_cons (at111_0 (AtK.whole ((HS.below hw_).getO 1 rfl).1)).int (part_cons hc34 part_nil)))) ?_
  obtain ⟨e36, el37, HS⟩ := HS.elO 3 rfl (by decide) o111 i11 q27 q28
  obtain ⟨A38, c39, hc40, le41, HS⟩ := HS.eO 0 rfl at111_1
  refine dt_ 7 (Below.refl _ _) (fun w_ hw_ => Run.loadS (cs := [.int .i64 ((l1.getD i11.toNat o111).f0), .slice A38 ((l1.getD i11.toNat o111).f1.length) c39]) rfl rfl Tryz.underlying111 rfl (by kernel_rfl) (cells_part ((HS.below hw_).getO 1 rfl).2 (part_cons (at111_0 (AtK.whole ((HS.below hw_).getO 1 rfl).1)).int (part_cons hc40 part_nil)))) ?_
  obtain ⟨t42, ha43, H⟩ := bind_some H
  refine dcs_ HS HB 8 (w_none rfl) Tryz.func86 (laws_eqPart.runs k17 (l0.getD i11.toNat o111) A32 c33 (l1.getD i11.toNat o111) A38 c39 t42 _ (HS.getO 2 rfl) le35 (HS.getO 0 rfl) le41 ha43) (fun w44 HS HB => ?_)
  refine dp_ 9 (fun _ => Run.not rfl rfl) ?_
  refine dd_ ?_
  clear HB HSW
  refine via_ hK22 ?_
  rcases eti_ H with ⟨c45, H⟩ | ⟨c45, H⟩
  · refine wy_ (nB (bF c45)) ?_
    refine sr_ fun _ hK46 => ?_
    refine as_ ?_
    refine dn_ hK46 ?_
    refine WC.ret ?_
    cases H
    rw [hG8] at Ho10
    replace H : some _ = some _ := Ho10
    cases H
    exact fin1 Tryz.f66 rfl rfl hR_ ⟨rfl, HS.b⟩
  refine wn_ (nB c45) ?_
  refine WC.skip ?_
  refine via_ hK21 ?_
  refine rg_ ?_
  refine mv_ ?_
  refine b_ bin_add64 ?_
  refine as_ ?_
  refine WL.done ?_
  exact WQ.round k17 (fun _ _ h_ => h_) (Nat.lt_succ_self _) ⟨(wrap64 (i11 + 1)), rfl, ⟨_, H, Ho10⟩, (St.pick HS (fun W_ h_ => ⟨AllF.get 4 rfl h_, AllF.get 5 rfl h_, trivial⟩) (fun W_ h_ => trivial))⟩ ⟨rfl, rfl, rfl, trivial⟩
def laws_eqPartSS.b0 (l0 : List (List S111)) (l1 : List (List S111)) (rec_ : Int → Option (Bool ⊕ Int)) (k17 : Nat) (i11 : Int) : Option (Bool ⊕ Int) := (if i11 < (l0.length : Int) then (if 0 ≤ i11 ∧ i11 < (l0.length : Int) then (if 0 ≤ i11 ∧ i11 < (l1.length : Int) then ((laws_eqPartS.g k17 (l0.getD i11.toNat []) (l1.getD i11.toNat [])).bind fun t36 => (if t36 = true then (rec_ (wrap64 (i11 + 1))) else (some (Sum.inl false)))) else none) else none) else (some (Sum.inr i11)))
def laws_eqPartSS.l0 (l0 : List (List S111)) (l1 : List (List S111)) : Nat → Int → Option (Bool ⊕ Int)
  | 0, _ => none
  | k + 1, i11 => laws_eqPartSS.b0 l0 l1 (laws_eqPartSS.l0 l0 l1 k) k i11
def laws_eqPartSS.g (k : Nat) (l0 : List (List S111)) (l1 : List (List S111)) : Option Bool := (if (l0.length : Int) = (l1.length : Int) then ((laws_eqPartSS.l0 l0 l1 k 0).bind (fun o15 => match o15 with | .inl r_ => some r_ | .inr i11 => (some true))) else (some false))
theorem laws_eqPartSS.runs (k : Nat) (A0 : Option Addr) (c0 : Nat) (l0 : List (List S111)) (A1 : Option Addr) (c1 : Nat) (l1 : List (List S111)) (r : Bool) (w : World) (hr0 : (Kd.slice 111 k111).C w A0 l0.length l0) (hc0 : l0.length ≤ c0) (hr1 : (Kd.slice 111 k111).C w A1 l1.length l1) (hc1 : l1.length ≤ c1) (H : laws_eqPartSS.g k l0 l1 = some r) :
    Calls Tryz.prog 30 #[.slice A0 l0.length c0, .slice A1 l1.length c1] w fun e w' => e = .returned (.bool r) ∧ Below w.heap.size w w' := by
  unfold laws_eqPartSS.g at H
  have HS : St (fun _ => True) w w [] [(fun W => (Kd.slice 111 k111).C W A0 l0.length l0), (fun W => (Kd.slice 111 k111).C W A1 l1.length l1)] [] := St.start (foot_cons (foot_C (Kd.heap_slice _ h111) hr0) (foot_cons (foot_C (Kd.heap_slice _ h111) hr1) foot_nil))
  refine cw_ Tryz.func30 fun R_ hR_ => ?_
  refine sr_ fun _ hK1 => ?_
  refine as_ ?_
  refine dn_ hK1 ?_
  refine WC.seq fun _ hK2 => ?_
  refine sr_ fun _ hK3 => ?_
  refine mv_ ?_
  refine ln_ Tryz.underlying38 ?_
  refine mv_ ?_
  refine ln_ Tryz.underlying38 ?_
  refine b_ bin_neq ?_
  refine dn_ hK3 ?_
  rcases eti_ H with ⟨c4, H⟩ | ⟨c4, H⟩
  · refine wy_ (qT c4) ?_
    refine sr_ fun _ hK41 => ?_
    refine as_ ?_
    refine dn_ hK41 ?_
    cases H
    exact rt1 Tryz.f30 rfl rfl hR_ ⟨rfl, HS.b⟩
  refine wn_ (qF c4) ?_
  refine WC.skip ?_
  refine via_ hK2 ?_
  refine WC.seq fun K5 hK5 => ?_
  refine sr_ fun _ hK6 => ?_
  refine as_ ?_
  refine dn_ hK6 ?_
  refine WC.block ?_
  obtain ⟨G7, hG8, o9, H, Ho10⟩ := open_G H
  have X12 : ∀ E_ W_, (∃ (i11 : Int), E_ = [(0, .slice A0 l0.length c0), (1, .slice A1 l1.length c1), (5, .int .i64 i11)] ∧ G7 (Sum.inr i11) = some r ∧ St (fun _ => True) w W_ [] [(fun W => (Kd.slice 111 k111).C W A0 l0.length l0), (fun W => (Kd.slice 111 k111).C W A1 l1.length l1)] []) → ∀ a, Fits a 27 E_ → K5 a W_ := by
    rintro E_ w13 ⟨i11, rfl, H, HS⟩
    rw [hG8] at H
    (try dsimp only at H)
    refine hK5 _ _ ?_
    refine sr_ fun _ hK14 => ?_
    refine as_ ?_
    refine dn_ hK14 ?_
    cases H
    exact rt1 Tryz.f30 rfl rfl hR_ ⟨rfl, HS.b⟩
  refine WC.loop (fun k_ E_ W_ => ∃ (i11 : Int), E_ = [(0, .slice A0 l0.length c0), (1, .slice A1 l1.length c1), (5, .int .i64 i11)] ∧ (∃ o_, laws_eqPartSS.l0 l0 l1 k_ i11 = some o_ ∧ G7 o_ = some r) ∧ St (fun _ => True) w W_ [] [(fun W => (Kd.slice 111 k111).C W A0 l0.length l0), (fun W => (Kd.slice 111 k111).C W A1 l1.length l1)] []) k ⟨0, rfl, ⟨_, H, Ho10⟩, (St.pick HS (fun W_ h_ => ⟨AllF.get 0 rfl h_, AllF.get 1 rfl h_, trivial⟩) (fun W_ h_ => trivial))⟩ ⟨rfl, rfl, rfl, trivial⟩ ?_
  rintro k_ E_ w16 ⟨i11, rfl, ⟨o9, H, Ho10⟩, HS⟩
  rcases k_ with _ | k17
  · exact no_ H
  replace H : laws_eqPartSS.b0 l0 l1 (laws_eqPartSS.l0 l0 l1 k17) k17 i11 = some o9 := H
  unfold laws_eqPartSS.b0 at H
  refine WC.seq fun _ hK18 => ?_
  refine sr_ fun _ hK19 => ?_
  refine mv_ ?_
  refine mv_ ?_
  refine ln_ Tryz.underlying38 ?_
  refine b_ bin_lss ?_
  refine dn_ hK19 ?_
  rcases eti_ H with ⟨c20, H⟩ | ⟨c20, H⟩
  · refine wn_ (dF c20) ?_
    refine WC.exit ?_
    cases H
    exact WQ.via2 (fun _ _ h_ => h_) X12 ⟨i11, rfl, Ho10, (St.pick HS (fun W_ h_ => ⟨AllF.get 0 rfl h_, AllF.get 1 rfl h_, trivial⟩) (fun W_ h_ => trivial))⟩ ⟨rfl, rfl, rfl, trivial⟩
  refine wy_ (dT c20) ?_
  refine WC.skip ?_
  refine via_ hK18 ?_
  refine WC.seq fun _ hK21 => ?_
  refine WC.block ?_
  refine WC.seq fun _ hK22 => ?_
  refine WC.drawS HS [] rfl rfl (fun w23 HS => ?_)
  have HB := Below.refl w23.heap.size w23
  have HSW := HS
  refine dm_ 0 ?_
  refine dm_ 1 ?_
  obtain ⟨⟨q24, q25⟩, H⟩ := if_some H
  obtain ⟨ad26, rfl⟩ := C_open (HS.getO 0 rfl) (by omega)
  refine di_ 2 Tryz.underlying38 1 q24 q25 ?_
  refine dm_ 4 ?_
  refine dm_ 5 ?_
  obtain ⟨⟨q27, q28⟩, H⟩ := if_some H
  obtain ⟨ad29, rfl⟩ := C_open (HS.getO 1 rfl) (by omega)
  refine di_ 6 Tryz.underlying38 1 q27 q28 ?_
  obtain ⟨A30, c31, le32, HS⟩ := HS.slO 0 rfl i11 q24 q25
  refine dt_ 3 (Below.refl _ _) (fun w_ hw_ => Run.load rfl rfl Tryz.underlying91 rfl ((HS.below hw_).getO 1 rfl)) ?_
  obtain ⟨A33, c34, le35, HS⟩ := HS.slO 3 rfl i11 q27 q28
  refine dt_ 7 (Below.refl _ _) (fun w_ hw_ => Run.load rfl rfl Tryz.underlying91 rfl ((HS.below hw_).getO 1 rfl)) ?_
  obtain ⟨t36, ha37, H⟩ := bind_some H
  refine dcs_ HS HB 8 (w_none rfl) Tryz.func66 (laws_eqPartS.runs k17 A30 c31 (l0.getD i11.toNat []) A33 c34 (l1.getD i11.toNat []) t36 _ (HS.getO 2 rfl) le32 (HS.getO 0 rfl) le35 ha37) (fun w38 HS HB => ?_)
  refine dp_ 9 (fun _ => Run.not rfl rfl) ?_
  refine dd_ ?_
  clear HB HSW
  refine via_ hK22 ?_
  rcases eti_ H with ⟨c39, H⟩ | ⟨c39, H⟩
  · refine wy_ (nB (bF c39)) ?_
    refine sr_ fun _ hK40 => ?_
    refine as_ ?_
    refine dn_ hK40 ?_
    refine WC.ret ?_
    cases H
    rw [hG8] at Ho10
    replace H : some _ = some _ := Ho10
    cases H
    exact fin1 Tryz.f30 rfl rfl hR_ ⟨rfl, HS.b⟩
  refine wn_ (nB c39) ?_
  refine WC.skip ?_
  refine via_ hK21 ?_
  refine rg_ ?_
  refine mv_ ?_
  refine b_ bin_add64 ?_
  refine as_ ?_
  refine WL.done ?_
  exact WQ.round k17 (fun _ _ h_ => h_) (Nat.lt_succ_self _) ⟨(wrap64 (i11 + 1)), rfl, ⟨_, H, Ho10⟩, (St.pick HS (fun W_ h_ => ⟨AllF.get 4 rfl h_, AllF.get 5 rfl h_, trivial⟩) (fun W_ h_ => trivial))⟩ ⟨rfl, rfl, rfl, trivial⟩
def laws_eqCell.g (k : Nat) (x0 : S40) (x1 : S40) : Option Bool := ((laws_eqPartSS.g k x0.f0 x1.f0).bind fun t8 => (if t8 = true then ((laws_eqPartSS.g k x0.f1 x1.f1).bind fun t14 => (if t14 = true then (some true) else (some false))) else (some false)))
theorem laws_eqCell.runs (k : Nat) (x0 : S40) (A0_0 : Option Addr) (c0_0 : Nat) (A0_1 : Option Addr) (c0_1 : Nat) (x1 : S40) (A1_0 : Option Addr) (c1_0 : Nat) (A1_1 : Option Addr) (c1_1 : Nat) (r : Bool) (w : World) (hr0_0 : (Kd.slice 111 k111).C w A0_0 x0.f0.length x0.f0) (hc0_0 : x0.f0.length ≤ c0_0) (hr0_1 : (Kd.slice 111 k111).C w A0_1 x0.f1.length x0.f1) (hc0_1 : x0.f1.length ≤ c0_1) (hr1_0 : (Kd.slice 111 k111).C w A1_0 x1.f0.length x1.f0) (hc1_0 : x1.f0.length ≤ c1_0) (hr1_1 : (Kd.slice 111 k111).C w A1_1 x1.f1.length x1.f1) (hc1_1 : x1.f1.length ≤ c1_1) (H : laws_eqCell.g k x0 x1 = some r) :
    Calls Tryz.prog 10 #[.agg #[.slice A0_0 x0.f0.length c0_0, .slice A0_1 x0.f1.length c0_1], .agg #[.slice A1_0 x1.f0.length c1_0, .slice A1_1 x1.f1.length c1_1]] w fun e w' => e = .returned (.bool r) ∧ Below w.heap.size w w' := by
  unfold laws_eqCell.g at H
  have HS : St (fun _ => True) w w [] [(fun W => (Kd.slice 111 k111).C W A0_0 x0.f0.length x0.f0), (fun W => (Kd.slice 111 k111).C W A0_1 x0.f1.length x0.f1), (fun W => (Kd.slice 111 k111).C W A1_0 x1.f0.length x1.f0), (fun W => (Kd.slice 111 k111).C W A1_1 x1.f1.length x1.f1)] [] := St.start (foot_cons (foot_C (Kd.heap_slice _ h111) hr0_0) (foot_cons (foot_C (Kd.heap_slice _ h111) hr0_1) (foot_cons (foot_C (Kd.heap_slice _ h111) hr1_0) (foot_cons (foot_C (Kd.heap_slice _ h111) hr1_1) foot_nil))))
  refine cw_ Tryz.func10 fun R_ hR_ => ?_
  refine sr_ fun _ hK1 => ?_
  refine bo_ HS (fun b2 w3 hb2 HS => ?_)
  refine bo_ HS (fun b4 w5 hb4 HS => ?_)
  refine as_ ?_
  refine dn_ hK1 ?_
  refine WC.seq fun _ hK6 => ?_
  refine sr_ fun _ hK7 => ?_
  refine v_ (fa_ Tryz.underlying40) ?_
  refine v_ (lb_ (HS.mu 1 rfl) Tryz.underlying38 rfl) ?_
  refine v_ (fa_ Tryz.underlying40) ?_
  refine v_ (lb_ (HS.mu 0 rfl) Tryz.underlying38 rfl) ?_
  obtain ⟨t8, ha9, H⟩ := bind_some H
  refine cs_ HS Tryz.func30 (laws_eqPartSS.runs k A0_0 c0_0 x0.f0 A1_0 c1_0 x1.f0 t8 _ (HS.getO 0 rfl) hc0_0 (HS.getO 2 rfl) hc1_0 ha9) (fun w10 HS => ?_)
  refine nt_ ?_
  refine dn_ hK7 ?_
  rcases eti_ H with ⟨c11, H⟩ | ⟨c11, H⟩
  · refine wy_ (nB (bF c11)) ?_
    refine sr_ fun _ hK20 => ?_
    refine as_ ?_
    refine dn_ hK20 ?_
    cases H
    exact rt1 Tryz.f10 rfl rfl hR_ ⟨rfl, HS.b⟩
  refine wn_ (nB c11) ?_
  refine WC.skip ?_
  refine via_ hK6 ?_
  refine WC.seq fun _ hK12 => ?_
  refine sr_ fun _ hK13 => ?_
  refine v_ (fa_ Tryz.underlying40) ?_
  refine v_ (lb_ (HS.mu 1 rfl) Tryz.underlying38 rfl) ?_
  refine v_ (fa_ Tryz.underlying40) ?_
  refine v_ (lb_ (HS.mu 0 rfl) Tryz.underlying38 rfl) ?_
  obtain ⟨t14, ha15, H⟩ := bind_some H
  refine cs_ HS Tryz.func30 (laws_eqPartSS.runs k A0_1 c0_1 x0.f1 A1_1 c1_1 x1.f1 t14 _ (HS.getO 1 rfl) hc0_1 (HS.getO 3 rfl) hc1_1 ha15) (fun w16 HS => ?_)
  refine nt_ ?_
  refine dn_ hK13 ?_
  rcases eti_ H with ⟨c17, H⟩ | ⟨c17, H⟩
  · refine wy_ (nB (bF c17)) ?_
    refine sr_ fun _ hK19 => ?_
    refine as_ ?_
    refine dn_ hK19 ?_
    cases H
    exact rt1 Tryz.f10 rfl rfl hR_ ⟨rfl, HS.b⟩
  refine wn_ (nB c17) ?_
  refine WC.skip ?_
  refine via_ hK12 ?_
  refine sr_ fun _ hK18 => ?_
  refine as_ ?_
  refine dn_ hK18 ?_
  cases H
  exact rt1 Tryz.f10 rfl rfl hR_ ⟨rfl, HS.b⟩
def spec_CellOk.g (k : Nat) (x0 : S40) (x1 : S47) : Option Bool := ((spec_ModelOk.g k x1).bind fun t7 => (if t7 = true then ((spec_l14Cell.g k (⟨x0.f0, x0.f1⟩ : S40) x1).bind fun t11 => (some t11)) else (some false)))
theorem spec_CellOk.runs (k : Nat) (x0 : S40) (A0_0 : Option Addr) (c0_0 : Nat) (A0_1 : Option Addr) (c0_1 : Nat) (cs1 : List Value) (x1 : S47) (r : Bool) (w : World) (hr0_0 : (Kd.slice 111 k111).C w A0_0 x0.f0.length x0.f0) (hc0_0 : x0.f0.length ≤ c0_0) (hr0_1 : (Kd.slice 111 k111).C w A0_1 x0.f1.length x0.f1) (hc0_1 : x0.f1.length ≤ c0_1) (hk1 : k47.K w x1 cs1) (H : spec_CellOk.g k x0 x1 = some r) :
    Calls Tryz.prog 6 #[.agg #[.slice A0_0 x0.f0.length c0_0, .slice A0_1 x0.f1.length c0_1], .agg cs1.toArray] w fun e w' => e = .returned (.bool r) ∧ Below w.heap.size w w' := by
  have el1 : cs1.length = 14 := k47.K_len hk1
  unfold spec_CellOk.g at H
  have HS : St (fun _ => True) w w [] [(fun W => (Kd.slice 111 k111).C W A0_0 x0.f0.length x0.f0), (fun W => (Kd.slice 111 k111).C W A0_1 x0.f1.length x0.f1), (fun W => k47.K W x1 cs1)] [] := St.start (foot_cons (foot_C (Kd.heap_slice _ h111) hr0_0) (foot_cons (foot_C (Kd.heap_slice _ h111) hr0_1) (foot_cons (foot_K h47 hk1) foot_nil)))
  refine cw_ Tryz.func6 fun R_ hR_ => ?_
  refine sr_ fun _ hK1 => ?_
  refine bo_ HS (fun b2 w3 hb2 HS => ?_)
  refine bo_ HS (fun b4 w5 hb4 HS => ?_)
  refine as_ ?_
  refine dn_ hK1 ?_
  refine sr_ fun _ hK6 => ?_
  refine v_ (Run.loadS (cs := cs1) rfl rfl Tryz.underlying47 rfl (by rw [el1]; kernel_rfl) (box_part (HS.mu 0 rfl) part_all)) ?_
  obtain ⟨t7, ha8, H⟩ := bind_some H
  refine cs_ HS Tryz.func19 (spec_ModelOk.runs k cs1 x1 t7 _ (HS.getO 2 rfl) ha8) (fun w9 HS => ?_)
  refine mv_ ?_
  rcases eti_ H with ⟨c10, H⟩ | ⟨c10, H⟩
  · refine off_ (c' := false) (bF c10) ?_
    refine WL.know 7 (bF c10) ?_
    refine fast_ ?_
    refine via_ hK6 ?_
    cases H
    exact rt1 Tryz.f6 rfl rfl hR_ ⟨rfl, HS.b⟩
  refine on_ c10 ?_
  refine v_ (ls_ (HS.mu 1 rfl) Tryz.underlying40 part_all) ?_
  refine on_ c10 ?_
  refine v_ (Run.loadS (cs := cs1) rfl rfl Tryz.underlying47 rfl (by rw [el1]; kernel_rfl) (box_part (HS.mu 0 rfl) part_all)) ?_
  refine on_ c10 ?_
  obtain ⟨t11, ha12, H⟩ := bind_some H
  refine cs_ HS Tryz.func20 (spec_l14Cell.runs k (⟨x0.f0, x0.f1⟩ : S40) A0_0 c0_0 A0_1 c0_1 cs1 x1 t11 _ (HS.getO 0 rfl) hc0_0 (HS.getO 1 rfl) hc0_1 (HS.getO 2 rfl) ha12) (fun w13 HS => ?_)
  refine v_ (Run.pickT rfl rfl c10 rfl) ?_
  refine as_ ?_
  refine dn_ hK6 ?_
  cases H
  exact rt1 Tryz.f6 rfl rfl hR_ ⟨rfl, HS.b⟩
def impl_Clamp.g (k : Nat) (a0 : Int) (a1 : Int) : Option Int := (if a1 < 0 then (some 0) else (some (if wrap64 (0 - a1) < (if a1 < a0 then a1 else a0) then (if a1 < a0 then a1 else a0) else wrap64 (0 - a1))))
theorem impl_Clamp.runs (k : Nat) (a0 : Int) (a1 : Int) (r : Int) (w : World) (H : impl_Clamp.g k a0 a1 = some r) :
    Calls Tryz.prog 105 #[.int .i64 a0, .int .i64 a1] w fun e w' => e = .returned (.int .i64 r) ∧ Below w.heap.size w w' := by
  unfold impl_Clamp.g at H
  have HS : St (fun _ => True) w w [] [] [] := St.start foot_nil
  refine cw_ Tryz.func105 fun R_ hR_ => ?_
  refine sr_ fun _ hK1 => ?_
  refine as_ ?_
  refine dn_ hK1 ?_
  refine WC.seq fun _ hK2 => ?_
  refine sr_ fun _ hK3 => ?_
  refine mv_ ?_
  refine b_ bin_lss ?_
  refine dn_ hK3 ?_
  rcases ite_ H with ⟨c4, H⟩ | ⟨c4, H⟩
  · refine wy_ (dT c4) ?_
    refine sr_ fun _ hK5 => ?_
    refine as_ ?_
    refine dn_ hK5 ?_
    cases H
    exact rt1 Tryz.f105 rfl rfl hR_ ⟨rfl, HS.b⟩
  refine wn_ (dF c4) ?_
  refine WC.skip ?_
  refine via_ hK2 ?_
  refine sr_ fun _ hK6 => ?_
  refine mv_ ?_
  refine v_ (Run.neg64 rfl rfl) ?_
  refine mv_ ?_
  refine mv_ ?_
  refine v_ (Run.min2 rfl rfl rfl) ?_
  refine v_ (Run.max2 rfl rfl rfl) ?_
  refine as_ ?_
  refine dn_ hK6 ?_
  cases H
  exact rt1 Tryz.f105 rfl rfl hR_ ⟨rfl, HS.b⟩
def impl_PutBack.b0 (x0 : S111) (rec_ : (List Int) → Int → Option ((List Int) × Int)) (k39 : Nat) (xs27 : List Int) (i30 : Int) : Option ((List Int) × Int) := (if i30 < (x0.f1.length : Int) then (if 0 ≤ i30 ∧ i30 < (x0.f1.length : Int) then (if 0 ≤ x0.f0 then ((impl_Clamp.g k39 (shl .i64 (x0.f1.getD i30.toNat 0) x0.f0) 127).bind fun t49 => (if (xs27.length) < 4294967296 then (rec_ (xs27 ++ [t49]) (wrap64 (i30 + 1))) else none)) else none) else none) else (some (xs27, i30)))
def impl_PutBack.l0 (x0 : S111) : Nat → (List Int) → Int → Option ((List Int) × Int)
  | 0, _, _ => none
  | k + 1, xs27, i30 => impl_PutBack.b0 x0 (impl_PutBack.l0 x0 k) k xs27 i30
def impl_PutBack.g (k : Nat) (x0 : S111) : Option ((List Int) × Bool) := ((impl_in.f x0.f0 0 4).bind fun t6 => (if t6 = true then ((impl_in.f (x0.f1.length : Int) 1 8).bind fun t10 => (if t10 = true then ((impl_allIn.f x0.f1 (-15) 15).bind fun t14 => (if t14 = true then ((impl_PutBack.l0 x0 k ([]) 0).bind (fun o37 => (some (o37.1, true)))) else (some ([], false)))) else (some ([], false)))) else (some ([], false))))
theorem impl_PutBack.runs (k : Nat) (x0 : S111) (A0_1 : Option Addr) (c0_1 : Nat) (r1 : List Int) (r2 : Bool) (w : World) (hr0_1 : (Kd.int .i64).C w A0_1 x0.f1.length x0.f1) (hc0_1 : x0.f1.length ≤ c0_1) (H : impl_PutBack.g k x0 = some (r1, r2)) :
    Calls Tryz.prog 104 #[.agg #[.int .i64 x0.f0, .slice A0_1 x0.f1.length c0_1]] w fun e w' => ∃ (A0_ : Option Addr) (c0_ : Nat), e = .returned (.tuple #[.slice A0_ r1.length c0_, .bool r2]) ∧ r1.length ≤ c0_ ∧ Foot (fun W => (Kd.int .i64).C W A0_ r1.length r1) w' (fun k_ => w.heap.size ≤ k_) ∧ Below w.heap.size w w' := by
  unfold impl_PutBack.g at H
  have HS : St (fun _ => True) w w [] [(fun W => (Kd.int .i64).C W A0_1 x0.f1.length x0.f1)] [] := St.start (foot_cons (foot_C (Kd.heap_int _) hr0_1) foot_nil)
  refine cw_ Tryz.func104 fun R_ hR_ => ?_
  refine sr_ fun _ hK1 => ?_
  refine bo_ HS (fun b2 w3 hb2 HS => ?_)
  refine as_ ?_
  refine as_ ?_
  refine dn_ hK1 ?_
  refine WC.seq fun _ hK4 => ?_
  refine sr_ fun _ hK5 => ?_
  refine v_ (fa_ Tryz.underlying111) ?_
  refine v_ (lb_ (HS.mu 0 rfl) Tryz.underlying3 rfl) ?_
  obtain ⟨t6, ha7, H⟩ := bind_some H
  refine cs0_ HS Tryz.func53 (impl_in.calls x0.f0 0 4 t6 _ ha7) (fun w8 HS => ?_)
  refine nt_ ?_
  refine mv_ ?_
  rcases eti_ H with ⟨c9, H⟩ | ⟨c9, H⟩
  · refine off_ (c' := true) (nB (bF c9)) ?_
    refine WL.know 11 (nB (bF c9)) ?_
    refine fast_ ?_
    refine via_ hK5 ?_
    refine wy_ rfl ?_
    refine sr_ fun _ hK59 => ?_
    refine as_ ?_
    refine as_ ?_
    refine dn_ hK59 ?_
    cases H
    exact rt2 Tryz.f104 rfl rfl rfl hR_ ⟨_, _, rfl, (Nat.le_refl _), (fun W_ _ => Kd.C_nil _ _), HS.b⟩
  refine on_ (nB c9) ?_
  refine v_ (fa_ Tryz.underlying111) ?_
  refine on_ (nB c9) ?_
  refine v_ (lb_ (HS.mu 0 rfl) Tryz.underlying28 rfl) ?_
  refine on_ (nB c9) ?_
  refine ln_ Tryz.underlying28 ?_
  refine on_ (nB c9) ?_
  obtain ⟨t10, ha11, H⟩ := bind_some H
  refine cs0_ HS Tryz.func53 (impl_in.calls (x0.f1.length : Int) 1 8 t10 _ ha11) (fun w12 HS => ?_)
  refine on_ (nB c9) ?_
  refine nt_ ?_
  refine v_ (Run.pickF rfl rfl (nB c9) rfl) ?_
  refine mv_ ?_
  rcases eti_ H with ⟨c13, H⟩ | ⟨c13, H⟩
  · refine off_ (c' := true) (nB (bF c13)) ?_
    refine WL.know 18 (nB (bF c13)) ?_
    refine fast_ ?_
    refine via_ hK5 ?_
    refine wy_ rfl ?_
    refine sr_ fun _ hK58 => ?_
    refine as_ ?_
    refine as_ ?_
    refine dn_ hK58 ?_
    cases H
    exact rt2 Tryz.f104 rfl rfl rfl hR_ ⟨_, _, rfl, (Nat.le_refl _), (fun W_ _ => Kd.C_nil _ _), HS.b⟩
  refine on_ (nB c13) ?_
  refine v_ (fa_ Tryz.underlying111) ?_
  refine on_ (nB c13) ?_
  refine v_ (lb_ (HS.mu 0 rfl) Tryz.underlying28 rfl) ?_
  refine on_ (nB c13) ?_
  obtain ⟨t14, ha15, H⟩ := bind_some H
  refine cs_ HS Tryz.func58 (impl_allIn.calls A0_1 c0_1 x0.f1 (-15) 15 t14 _ (HS.getO 0 rfl) hc0_1 ha15) (fun w16 HS => ?_)
  refine on_ (nB c13) ?_
  refine nt_ ?_
  refine v_ (Run.pickF rfl rfl (nB c13) rfl) ?_
  refine dn_ hK5 ?_
  rcases eti_ H with ⟨c17, H⟩ | ⟨c17, H⟩
  · refine wy_ (nB (bF c17)) ?_
    refine sr_ fun _ hK57 => ?_
    refine as_ ?_
    refine as_ ?_
    refine dn_ hK57 ?_
    cases H
    exact rt2 Tryz.f104 rfl rfl rfl hR_ ⟨_, _, rfl, (Nat.le_refl _), (fun W_ _ => Kd.C_nil _ _), HS.b⟩
  refine wn_ (nB c17) ?_
  refine WC.skip ?_
  refine via_ hK4 ?_
  refine sr_ fun _ hK18 => ?_
  refine WL.lit0 HS rfl rfl (by decide) rfl Tryz.underlying28 (sz := 1) (by kernel_rfl) (fun v19 w20 HS => ?_)
  replace HS := HS.deriveN (p := (fun W => Reps ((Kd.int .i64).K W) (Kd.int .i64).sz ([] : List Int) [])) (fun _ _ => Reps.none _ _)
  refine as_ ?_
  refine dn_ hK18 ?_
  refine WC.seq fun K21 hK21 => ?_
  refine sr_ fun _ hK22 => ?_
  refine v_ (fa_ Tryz.underlying111) ?_
  refine v_ (lb_ (HS.mu 1 rfl) Tryz.underlying28 rfl) ?_
  refine ln_ Tryz.underlying28 ?_
  refine mv_ ?_
  refine dn_ hK22 ?_
  refine WC.block ?_
  obtain ⟨G23, hG24, o25, H, Ho26⟩ := open_G H
  have X31 : ∀ E_ W_, (∃ (xs27 : List Int) (v28 : Value) (I29 : List Value) (i30 : Int), E_ = [(1, .pointer (some ⟨b2, 0, none⟩)), (4, v28), (26, .slice A0_1 x0.f1.length c0_1), (27, .int .i64 (x0.f1.length : Int)), (28, .int .i64 i30)] ∧ G23 (xs27, i30) = some (r1, r2) ∧ St (fun _ => True) w W_ [rowM w.heap.size 3 1 v28 xs27.length I29, boxM b2 #[.int .i64 x0.f0, .slice A0_1 x0.f1.length c0_1] 111] [(fun W => (Kd.int .i64).C W A0_1 x0.f1.length x0.f1)] [(fun W => Reps ((Kd.int .i64).K W) (Kd.int .i64).sz xs27 I29)]) → ∀ a, Fits a 42 E_ → K21 a W_ := by
    rintro E_ w32 ⟨xs27, v28, I29, i30, rfl, H, HS⟩
    rw [hG24] at H
    (try dsimp only at H)
    refine hK21 _ _ ?_
    refine sr_ fun _ hK33 => ?_
    refine fast_ ?_
    refine via_ hK33 ?_
    refine WC.ret ?_
    obtain ⟨A34, c35, rfl⟩ := row_slice (HS.mu 0 rfl)
    have le36 := row_le (HS.mu 0 rfl)
    replace HS := HS.freezeN 0 (p := (fun W => (Kd.int .i64).C W A34 (xs27).length (xs27))) rfl (fun W_ hm_ h_ => row_C (by rfl) hm_ (AllF.get 0 rfl h_))
    cases H
    exact fin2 Tryz.f104 rfl rfl rfl hR_ ⟨_, _, rfl, le36, (foot_fresh (HS.footN 0 rfl)), HS.b⟩
  refine WC.loop (fun k_ E_ W_ => ∃ (xs27 : List Int) (v28 : Value) (I29 : List Value) (i30 : Int), E_ = [(1, .pointer (some ⟨b2, 0, none⟩)), (4, v28), (26, .slice A0_1 x0.f1.length c0_1), (27, .int .i64 (x0.f1.length : Int)), (28, .int .i64 i30)] ∧ (∃ o_, impl_PutBack.l0 x0 k_ xs27 i30 = some o_ ∧ G23 o_ = some (r1, r2)) ∧ St (fun _ => True) w W_ [rowM w.heap.size 3 1 v28 xs27.length I29, boxM b2 #[.int .i64 x0.f0, .slice A0_1 x0.f1.length c0_1] 111] [(fun W => (Kd.int .i64).C W A0_1 x0.f1.length x0.f1)] [(fun W => Reps ((Kd.int .i64).K W) (Kd.int .i64).sz xs27 I29)]) k ⟨([]), v19, ([]), 0, rfl, ⟨_, H, Ho26⟩, (St.pick HS (fun W_ h_ => ⟨AllF.get 0 rfl h_, trivial⟩) (fun W_ h_ => ⟨AllF.get 0 rfl h_, trivial⟩))⟩ ⟨rfl, rfl, rfl, rfl, rfl, trivial⟩ ?_
  rintro k_ E_ w38 ⟨xs27, v28, I29, i30, rfl, ⟨o25, H, Ho26⟩, HS⟩
  rcases k_ with _ | k39
  · exact no_ H
  replace H : impl_PutBack.b0 x0 (impl_PutBack.l0 x0 k39) k39 xs27 i30 = some o25 := H
  unfold impl_PutBack.b0 at H
  refine sr_ fun _ hK40 => ?_
  refine b_ bin_lss ?_
  refine dn_ hK40 ?_
  refine WC.seq fun _ hK41 => ?_
  rcases eti_ H with ⟨c42, H⟩ | ⟨c42, H⟩
  · refine wn_ (dF c42) ?_
    refine WC.exit ?_
    cases H
    exact WQ.via2 (fun _ _ h_ => h_) X31 ⟨xs27, v28, I29, i30, rfl, Ho26, (St.pick HS (fun W_ h_ => ⟨AllF.get 0 rfl h_, trivial⟩) (fun W_ h_ => ⟨AllF.get 0 rfl h_, trivial⟩))⟩ ⟨rfl, rfl, rfl, rfl, rfl, trivial⟩
  refine wy_ (dT c42) ?_
  refine WC.skip ?_
  refine via_ hK41 ?_
  refine WC.seq fun _ hK43 => ?_
  refine WC.block ?_
  refine sr_ fun _ hK44 => ?_
  obtain ⟨⟨q45, q46⟩, H⟩ := if_some H
  obtain ⟨ad47, rfl⟩ := C_open (HS.getO 0 rfl) (by omega)
  refine v_ (ia_ Tryz.underlying28 1 q45 q46) ?_
  refine v_ (Run.load rfl rfl Tryz.underlying3 rfl (int_cell (HS.getO 0 rfl) i30 q45 q46)) ?_
  refine as_ ?_
  refine dn_ hK44 ?_
  refine rg_ ?_
  refine mv_ ?_
  refine mv_ ?_
  refine v_ (fa_ Tryz.underlying111) ?_
  refine v_ (lb_ (HS.mu 1 rfl) Tryz.underlying3 rfl) ?_
  obtain ⟨q48, H⟩ := if_some H
  refine v_ (Run.shlV rfl rfl rfl q48) ?_
  obtain ⟨t49, ha50, H⟩ := bind_some H
  refine cs_ HS Tryz.func105 (impl_Clamp.runs k39 (shl .i64 (x0.f1.getD i30.toNat 0) x0.f0) 127 t49 _  ha50) (fun w51 HS => ?_)
  refine WL.val rfl rfl (by decide) (Run.lit1 (z := (.int .i64 0)) (vs := [.int .i64 t49]) rfl rfl rfl Tryz.underlying28 (by kernel_rfl) (Nat.le_of_ble_eq_true rfl) (Nat.le_of_ble_eq_true rfl)) ?_
  have HS1 := HS.below (below_alloc (Below.refl _ _) (.cells #[.int .i64 t49] 3))
  obtain ⟨q52, H⟩ := if_some H
  refine WL.append HS1 0 rfl rfl rfl (by decide) rfl (.int .i64 0) 8 Tryz.underlying28 (by kernel_rfl) rfl (by decide) (by decide) rfl rfl [.int .i64 t49] rfl (lit_news _ _ _) (one_cons rfl one_nil) (by omega) ((xs27 ++ [t49]).length) (by simp) (fun v53 w54 I55 hI56 HS => ?_)
  replace HS := HS.deriveN (p := (fun W => Reps ((Kd.int .i64).K W) (Kd.int .i64).sz (xs27 ++ [t49]) I55)) (fun W_ hN_ => reps_snoc hI56 (AllF.get 0 rfl hN_) (K_int _))
  clear HS1
  refine as_ ?_
  refine dn_ hK43 ?_
  refine rg_ ?_
  refine b_ bin_add64 ?_
  refine mv_ ?_
  refine WL.done ?_
  exact WQ.round k39 (fun _ _ h_ => h_) (Nat.lt_succ_self _) ⟨(xs27 ++ [t49]), v53, I55, (wrap64 (i30 + 1)), rfl, ⟨_, H, Ho26⟩, (St.pick HS (fun W_ h_ => ⟨AllF.get 0 rfl h_, trivial⟩) (fun W_ h_ => ⟨AllF.get 0 rfl h_, trivial⟩))⟩ ⟨rfl, rfl, rfl, rfl, rfl, trivial⟩
def impl_PartOk.g (k : Nat) (x0 : S111) (a1 : Int) : Option Bool := ((impl_PutBack.g k (⟨x0.f0, x0.f1⟩ : S111)).bind fun t5 => (if t5.2 = true then (some ((x0.f1.length : Int) == a1)) else (some false)))
theorem impl_PartOk.runs (k : Nat) (x0 : S111) (A0_1 : Option Addr) (c0_1 : Nat) (a1 : Int) (r : Bool) (w : World) (hr0_1 : (Kd.int .i64).C w A0_1 x0.f1.length x0.f1) (hc0_1 : x0.f1.length ≤ c0_1) (H : impl_PartOk.g k x0 a1 = some r) :
    Calls Tryz.prog 99 #[.agg #[.int .i64 x0.f0, .slice A0_1 x0.f1.length c0_1], .int .i64 a1] w fun e w' => e = .returned (.bool r) ∧ Below w.heap.size w w' := by
  unfold impl_PartOk.g at H
  have HS : St (fun _ => True) w w [] [(fun W => (Kd.int .i64).C W A0_1 x0.f1.length x0.f1)] [] := St.start (foot_cons (foot_C (Kd.heap_int _) hr0_1) foot_nil)
  refine cw_ Tryz.func99 fun R_ hR_ => ?_
  refine sr_ fun _ hK1 => ?_
  refine bo_ HS (fun b2 w3 hb2 HS => ?_)
  refine as_ ?_
  refine dn_ hK1 ?_
  refine sr_ fun _ hK4 => ?_
  refine v_ (ls_ (HS.mu 0 rfl) Tryz.underlying111 part_all) ?_
  obtain ⟨t5, ha6, H⟩ := bind_some H
  refine c_ Tryz.func104 (impl_PutBack.runs k (⟨x0.f0, x0.f1⟩ : S111) A0_1 c0_1 t5.1 t5.2 _ (HS.getO 0 rfl) hc0_1 ha6) ?_
  rintro _ w7 ⟨A8, c9, rfl, le10, hf11, hb⟩
  replace HS := HS.newNs hb (foot_cons hf11 foot_nil)
  refine ⟨_, rfl, ?_⟩
  clear hb
  refine mv_ ?_
  refine v_ (Run.extract rfl rfl rfl) ?_
  refine v_ (Run.extract rfl rfl rfl) ?_
  refine as_ ?_
  refine as_ ?_
  refine dn_ hK4 ?_
  refine sr_ fun _ hK12 => ?_
  refine mv_ ?_
  refine mv_ ?_
  rcases eti_ H with ⟨c13, H⟩ | ⟨c13, H⟩
  · refine off_ (c' := false) (bF c13) ?_
    refine WL.know 13 (bF c13) ?_
    refine fast_ ?_
    refine via_ hK12 ?_
    cases H
    exact rt1 Tryz.f99 rfl rfl hR_ ⟨rfl, HS.b⟩
  refine on_ c13 ?_
  refine v_ (fa_ Tryz.underlying111) ?_
  refine on_ c13 ?_
  refine v_ (lb_ (HS.mu 0 rfl) Tryz.underlying28 rfl) ?_
  refine on_ c13 ?_
  refine ln_ Tryz.underlying28 ?_
  refine on_ c13 ?_
  refine mv_ ?_
  refine on_ c13 ?_
  refine b_ bin_eql ?_
  refine v_ (Run.pickT rfl rfl c13 rfl) ?_
  refine as_ ?_
  refine dn_ hK12 ?_
  cases H
  exact rt1 Tryz.f99 rfl rfl hR_ ⟨rfl, HS.b⟩
def impl_partsOk_1.g (k : Nat) (x0 : S111) (a1 : Int) : Option Bool := ((impl_PartOk.g k (⟨x0.f0, x0.f1⟩ : S111) a1).bind fun t5 => (some (!t5)))
theorem impl_partsOk_1.runs (k : Nat) (x0 : S111) (A0_1 : Option Addr) (c0_1 : Nat) (b1 : Nat) (a1 : Int) (r : Bool) (w : World) (hr0_1 : (Kd.int .i64).C w A0_1 x0.f1.length x0.f1) (hc0_1 : x0.f1.length ≤ c0_1) (hb1 : w.heap[b1]? = some (.cells #[.int .i64 a1] 3 (0, 0))) (H : impl_partsOk_1.g k x0 a1 = some r) :
    Calls Tryz.prog 98 #[.agg #[.int .i64 x0.f0, .slice A0_1 x0.f1.length c0_1], .pointer (some ⟨b1, 0, none⟩)] w fun e w' => e = .returned (.bool r) ∧ Below w.heap.size w w' := by
  unfold impl_partsOk_1.g at H
  have HS : St (fun _ => True) w w [] [(fun W => (Kd.int .i64).C W A0_1 x0.f1.length x0.f1), (fun W => W.heap[b1]? = some (.cells #[.int .i64 a1] 3 (0, 0)))] [] := St.start (foot_cons (foot_C (Kd.heap_int _) hr0_1) (foot_cons (foot_rob hb1) foot_nil))
  refine cw_ Tryz.func98 fun R_ hR_ => ?_
  refine sr_ fun _ hK1 => ?_
  refine bo_ HS (fun b2 w3 hb2 HS => ?_)
  refine as_ ?_
  refine dn_ hK1 ?_
  refine sr_ fun _ hK4 => ?_
  refine v_ (ls_ (HS.mu 0 rfl) Tryz.underlying111 part_all) ?_
  refine v_ (lb_ (HS.getO 1 rfl) Tryz.underlying3 rfl) ?_
  obtain ⟨t5, ha6, H⟩ := bind_some H
  refine cs_ HS Tryz.func99 (impl_PartOk.runs k (⟨x0.f0, x0.f1⟩ : S111) A0_1 c0_1 a1 t5 _ (HS.getO 0 rfl) hc0_1 ha6) (fun w7 HS => ?_)
  refine nt_ ?_
  refine as_ ?_
  refine dn_ hK4 ?_
  cases H
  exact rt1 Tryz.f98 rfl rfl hR_ ⟨rfl, HS.b⟩
def slices_IndexFunc_impl_Part_impl_Part_98.b0 (l0 : List S111) (a1c0 : Int) (rec_ : Int → Option (Int ⊕ Int)) (k14 : Nat) (i8 : Int) : Option (Int ⊕ Int) := (if i8 < (l0.length : Int) then (if 0 ≤ i8 ∧ i8 < (l0.length : Int) then ((impl_partsOk_1.g k14 (l0.getD i8.toNat o111) a1c0).bind fun t30 => (if t30 = true then (some (Sum.inl i8)) else (rec_ (wrap64 (i8 + 1))))) else none) else (some (Sum.inr i8)))
def slices_IndexFunc_impl_Part_impl_Part_98.l0 (l0 : List S111) (a1c0 : Int) : Nat → Int → Option (Int ⊕ Int)
  | 0, _ => none
  | k + 1, i8 => slices_IndexFunc_impl_Part_impl_Part_98.b0 l0 a1c0 (slices_IndexFunc_impl_Part_impl_Part_98.l0 l0 a1c0 k) k i8
def slices_IndexFunc_impl_Part_impl_Part_98.g (k : Nat) (l0 : List S111) (a1c0 : Int) : Option Int := ((slices_IndexFunc_impl_Part_impl_Part_98.l0 l0 a1c0 k 0).bind (fun o12 => match o12 with | .inl r_ => some r_ | .inr i8 => (some (-1))))
theorem slices_IndexFunc_impl_Part_impl_Part_98.runs (k : Nat) (A0 : Option Addr) (c0 : Nat) (l0 : List S111) (b1c0 : Nat) (a1c0 : Int) (r : Int) (w : World) (hr0 : k111.C w A0 l0.length l0) (hc0 : l0.length ≤ c0) (hb1c0 : w.heap[b1c0]? = some (.cells #[.int .i64 a1c0] 3 (0, 0))) (H : slices_IndexFunc_impl_Part_impl_Part_98.g k l0 a1c0 = some r) :
    Calls Tryz.prog 103 #[.slice A0 l0.length c0, .func (.func 98) #[] #[.pointer (some ⟨b1c0, 0, none⟩)]] w fun e w' => e = .returned (.int .i64 r) ∧ Below w.heap.size w w' := by
  unfold slices_IndexFunc_impl_Part_impl_Part_98.g at H
  have HS : St (fun _ => True) w w [] [(fun W => k111.C W A0 l0.length l0), (fun W => W.heap[b1c0]? = some (.cells #[.int .i64 a1c0] 3 (0, 0)))] [] := St.start (foot_cons (foot_C h111 hr0) (foot_cons (foot_rob hb1c0) foot_nil))
  refine cw_ Tryz.func103 fun R_ hR_ => ?_
  refine sr_ fun _ hK1 => ?_
  refine as_ ?_
  refine dn_ hK1 ?_
  refine WC.seq fun K2 hK2 => ?_
  refine sr_ fun _ hK3 => ?_
  refine mv_ ?_
  refine ln_ Tryz.underlying91 ?_
  refine mv_ ?_
  refine dn_ hK3 ?_
  refine WC.block ?_
  obtain ⟨G4, hG5, o6, H, Ho7⟩ := open_G H
  have X9 : ∀ E_ W_, (∃ (i8 : Int), E_ = [(0, .slice A0 l0.length c0), (1, .func (.func 98) #[] #[.pointer (some ⟨b1c0, 0, none⟩)]), (7, .int .i64 (l0.length : Int)), (8, .int .i64 i8)] ∧ G4 (Sum.inr i8) = some r ∧ St (fun _ => True) w W_ [] [(fun W => k111.C W A0 l0.length l0), (fun W => W.heap[b1c0]? = some (.cells #[.int .i64 a1c0] 3 (0, 0)))] []) → ∀ a, Fits a 19 E_ → K2 a W_ := by
    rintro E_ w10 ⟨i8, rfl, H, HS⟩
    rw [hG5] at H
    (try dsimp only at H)
    refine hK2 _ _ ?_
    refine sr_ fun _ hK11 => ?_
    refine as_ ?_
    refine dn_ hK11 ?_
    cases H
    exact rt1 Tryz.f103 rfl rfl hR_ ⟨rfl, HS.b⟩
  refine WC.loop (fun k_ E_ W_ => ∃ (i8 : Int), E_ = [(0, .slice A0 l0.length c0), (1, .func (.func 98) #[] #[.pointer (some ⟨b1c0, 0, none⟩)]), (7, .int .i64 (l0.length : Int)), (8, .int .i64 i8)] ∧ (∃ o_, slices_IndexFunc_impl_Part_impl_Part_98.l0 l0 a1c0 k_ i8 = some o_ ∧ G4 o_ = some r) ∧ St (fun _ => True) w W_ [] [(fun W => k111.C W A0 l0.length l0), (fun W => W.heap[b1c0]? = some (.cells #[.int .i64 a1c0] 3 (0, 0)))] []) k ⟨0, rfl, ⟨_, H, Ho7⟩, (St.pick HS (fun W_ h_ => ⟨AllF.get 0 rfl h_, AllF.get 1 rfl h_, trivial⟩) (fun W_ h_ => trivial))⟩ ⟨rfl, rfl, rfl, rfl, trivial⟩ ?_
  rintro k_ E_ w13 ⟨i8, rfl, ⟨o6, H, Ho7⟩, HS⟩
  rcases k_ with _ | k14
  · exact no_ H
  replace H : slices_IndexFunc_impl_Part_impl_Part_98.b0 l0 a1c0 (slices_IndexFunc_impl_Part_impl_Part_98.l0 l0 a1c0 k14) k14 i8 = some o6 := H
  unfold slices_IndexFunc_impl_Part_impl_Part_98.b0 at H
  refine sr_ fun _ hK15 => ?_
  refine b_ bin_lss ?_
  refine dn_ hK15 ?_
  refine WC.seq fun _ hK16 => ?_
  rcases eti_ H with ⟨c17, H⟩ | ⟨c17, H⟩
  · refine wn_ (dF c17) ?_
    refine WC.exit ?_
    cases H
    exact WQ.via2 (fun _ _ h_ => h_) X9 ⟨i8, rfl, Ho7, (St.pick HS (fun W_ h_ => ⟨AllF.get 0 rfl h_, AllF.get 1 rfl h_, trivial⟩) (fun W_ h_ => trivial))⟩ ⟨rfl, rfl, rfl, rfl, trivial⟩
  refine wy_ (dT c17) ?_
  refine WC.skip ?_
  refine via_ hK16 ?_
  refine WC.seq fun _ hK18 => ?_
  refine WC.block ?_
  refine sr_ fun _ hK19 => ?_
  refine mv_ ?_
  refine as_ ?_
  refine dn_ hK19 ?_
  refine sr_ fun _ hK20 => ?_
  refine mv_ ?_
  refine mv_ ?_
  refine mv_ ?_
  obtain ⟨⟨q21, q22⟩, H⟩ := if_some H
  obtain ⟨ad23, rfl⟩ := C_open (HS.getO 0 rfl) (by omega)
  refine v_ (ia_ Tryz.underlying91 2 q21 q22) ?_
  obtain ⟨e24, el25, HS⟩ := HS.elO 0 rfl (by decide) o111 i8 q21 q22
  obtain ⟨A26, c27, hc28, le29, HS⟩ := HS.eO 0 rfl at111_1
  refine v_ (Run.loadS (cs := [.int .i64 ((l0.getD i8.toNat o111).f0), .slice A26 ((l0.getD i8.toNat o111).f1.length) c27]) rfl rfl Tryz.underlying111 rfl (by kernel_rfl) (cells_part (HS.getO 1 rfl).2 (part_cons (at111_0 (AtK.whole (HS.getO 1 rfl).1)).int (part_cons hc28 part_nil)))) ?_
  obtain ⟨t30, ha31, H⟩ := bind_some H
  refine cv_ (args := [.agg #[.int .i64 ((l0.getD i8.toNat o111).f0), .slice A26 ((l0.getD i8.toNat o111).f1.length) c27]]) (cap := [.pointer (some ⟨b1c0, 0, none⟩)]) Tryz.func98 (impl_partsOk_1.runs k14 (l0.getD i8.toNat o111) A26 c27 b1c0 a1c0 t30 _ (HS.getO 0 rfl) le29 (HS.getO 3 rfl) ha31) ?_
  rintro _ w32 ⟨rfl, hb⟩
  replace HS := HS.below hb
  refine ⟨_, rfl, ?_⟩
  clear hb
  refine dn_ hK20 ?_
  rcases ite_ H with ⟨c33, H⟩ | ⟨c33, H⟩
  · refine wy_ c33 ?_
    refine sr_ fun _ hK34 => ?_
    refine mv_ ?_
    refine as_ ?_
    refine dn_ hK34 ?_
    refine WC.ret ?_
    cases H
    rw [hG5] at Ho7
    replace H : some _ = some _ := Ho7
    cases H
    exact fin1 Tryz.f103 rfl rfl hR_ ⟨rfl, HS.b⟩
  refine wn_ (bF c33) ?_
  refine WC.skip ?_
  refine via_ hK18 ?_
  refine rg_ ?_
  refine b_ bin_add64 ?_
  refine mv_ ?_
  refine WL.done ?_
  exact WQ.round k14 (fun _ _ h_ => h_) (Nat.lt_succ_self _) ⟨(wrap64 (i8 + 1)), rfl, ⟨_, H, Ho7⟩, (St.pick HS (fun W_ h_ => ⟨AllF.get 2 rfl h_, AllF.get 3 rfl h_, trivial⟩) (fun W_ h_ => trivial))⟩ ⟨rfl, rfl, rfl, rfl, trivial⟩
def slices_ContainsFunc_impl_Part_impl_Part_98.g (k : Nat) (l0 : List S111) (a1c0 : Int) : Option Bool := ((slices_IndexFunc_impl_Part_impl_Part_98.g k l0 a1c0).bind fun t3 => (some (decide (t3 ≥ 0))))
theorem slices_ContainsFunc_impl_Part_impl_Part_98.runs (k : Nat) (A0 : Option Addr) (c0 : Nat) (l0 : List S111) (b1c0 : Nat) (a1c0 : Int) (r : Bool) (w : World) (hr0 : k111.C w A0 l0.length l0) (hc0 : l0.length ≤ c0) (hb1c0 : w.heap[b1c0]? = some (.cells #[.int .i64 a1c0] 3 (0, 0))) (H : slices_ContainsFunc_impl_Part_impl_Part_98.g k l0 a1c0 = some r) :
    Calls Tryz.prog 97 #[.slice A0 l0.length c0, .func (.func 98) #[] #[.pointer (some ⟨b1c0, 0, none⟩)]] w fun e w' => e = .returned (.bool r) ∧ Below w.heap.size w w' := by
  unfold slices_ContainsFunc_impl_Part_impl_Part_98.g at H
  have HS : St (fun _ => True) w w [] [(fun W => k111.C W A0 l0.length l0), (fun W => W.heap[b1c0]? = some (.cells #[.int .i64 a1c0] 3 (0, 0)))] [] := St.start (foot_cons (foot_C h111 hr0) (foot_cons (foot_rob hb1c0) foot_nil))
  refine cw_ Tryz.func97 fun R_ hR_ => ?_
  refine sr_ fun _ hK1 => ?_
  refine as_ ?_
  refine dn_ hK1 ?_
  refine sr_ fun _ hK2 => ?_
  refine mv_ ?_
  refine mv_ ?_
  obtain ⟨t3, ha4, H⟩ := bind_some H
  refine cs_ HS Tryz.func103 (slices_IndexFunc_impl_Part_impl_Part_98.runs k A0 c0 l0 b1c0 a1c0 t3 _ (HS.getO 0 rfl) hc0 (HS.getO 1 rfl) ha4) (fun w5 HS => ?_)
  refine b_ bin_geq ?_
  refine as_ ?_
  refine dn_ hK2 ?_
  cases H
  exact rt1 Tryz.f97 rfl rfl hR_ ⟨rfl, HS.b⟩
def impl_partsOk.g (k : Nat) (l0 : List S111) (a1 : Int) (a2 : Int) : Option Bool := (if (l0.length : Int) = a1 then ((slices_ContainsFunc_impl_Part_impl_Part_98.g k l0 a2).bind fun t6 => (some (!t6))) else (some false))
theorem impl_partsOk.runs (k : Nat) (A0 : Option Addr) (c0 : Nat) (l0 : List S111) (a1 : Int) (a2 : Int) (r : Bool) (w : World) (hr0 : k111.C w A0 l0.length l0) (hc0 : l0.length ≤ c0) (H : impl_partsOk.g k l0 a1 a2 = some r) :
    Calls Tryz.prog 85 #[.slice A0 l0.length c0, .int .i64 a1, .int .i64 a2] w fun e w' => e = .returned (.bool r) ∧ Below w.heap.size w w' := by
  unfold impl_partsOk.g at H
  have HS : St (fun _ => True) w w [] [(fun W => k111.C W A0 l0.length l0)] [] := St.start (foot_cons (foot_C h111 hr0) foot_nil)
  refine cw_ Tryz.func85 fun R_ hR_ => ?_
  refine sr_ fun _ hK1 => ?_
  refine bo_ HS (fun b2 w3 hb2 HS => ?_)
  refine as_ ?_
  refine dn_ hK1 ?_
  refine sr_ fun _ hK4 => ?_
  refine mv_ ?_
  refine ln_ Tryz.underlying91 ?_
  refine mv_ ?_
  refine b_ bin_eql ?_
  refine mv_ ?_
  rcases eti_ H with ⟨c5, H⟩ | ⟨c5, H⟩
  · refine off_ (c' := false) (eF c5) ?_
    refine WL.know 11 (eF c5) ?_
    refine fast_ ?_
    refine via_ hK4 ?_
    cases H
    exact rt1 Tryz.f85 rfl rfl hR_ ⟨rfl, HS.b⟩
  refine on_ (eT c5) ?_
  refine mv_ ?_
  refine on_ (eT c5) ?_
  refine v_ (Run.makeFunc (cap := [.pointer (some ⟨b2, 0, none⟩)]) rfl rfl) ?_
  refine on_ (eT c5) ?_
  obtain ⟨t6, ha7, H⟩ := bind_some H
  refine cs_ HS Tryz.func97 (slices_ContainsFunc_impl_Part_impl_Part_98.runs k A0 c0 l0 b2 a2 t6 _ (HS.getO 0 rfl) hc0 (HS.mu 0 rfl) ha7) (fun w8 HS => ?_)
  refine on_ (eT c5) ?_
  refine nt_ ?_
  refine v_ (Run.pickT rfl rfl (eT c5) rfl) ?_
  refine as_ ?_
  refine dn_ hK4 ?_
  cases H
  exact rt1 Tryz.f85 rfl rfl hR_ ⟨rfl, HS.b⟩
def impl_layersOk_1.g (k : Nat) (l0 : List S111) (x1 : S47) : Option Bool := (if x1.f1 ≠ 0 then ((impl_partsOk.g k l0 x1.f1 (wrap64 (Int.tdiv x1.f0 x1.f1))).bind fun t5 => (some (!t5))) else none)
theorem impl_layersOk_1.runs (k : Nat) (A0 : Option Addr) (c0 : Nat) (l0 : List S111) (b1 : Nat) (cs1 : List Value) (x1 : S47) (r : Bool) (w : World) (hr0 : k111.C w A0 l0.length l0) (hc0 : l0.length ≤ c0) (hk1 : k47.K w x1 cs1) (hb1 : w.heap[b1]? = some (.cells cs1.toArray 47 (0, 0))) (H : impl_layersOk_1.g k l0 x1 = some r) :
    Calls Tryz.prog 84 #[.slice A0 l0.length c0, .pointer (some ⟨b1, 0, none⟩)] w fun e w' => e = .returned (.bool r) ∧ Below w.heap.size w w' := by
  have el1 : cs1.length = 14 := k47.K_len hk1
  unfold impl_layersOk_1.g at H
  have HS : St (fun _ => True) w w [] [(fun W => k111.C W A0 l0.length l0), (fun W => k47.K W x1 cs1), (fun W => W.heap[b1]? = some (.cells cs1.toArray 47 (0, 0)))] [] := St.start (foot_cons (foot_C h111 hr0) (foot_cons (foot_K h47 hk1) (foot_cons (foot_rob hb1) foot_nil)))
  refine cw_ Tryz.func84 fun R_ hR_ => ?_
  refine sr_ fun _ hK1 => ?_
  refine as_ ?_
  refine dn_ hK1 ?_
  refine WC.seq fun _ hK2 => ?_
  refine WC.drawS HS [] rfl rfl (fun w3 HS => ?_)
  have HB := Below.refl w3.heap.size w3
  have HSW := HS
  refine dm_ 0 ?_
  refine df_ 1 Tryz.underlying47 ?_
  refine df_ 3 Tryz.underlying47 ?_
  refine df_ 5 Tryz.underlying47 ?_
  refine dt_ 2 (Below.refl _ _) (fun w_ hw_ => Run.load rfl rfl Tryz.underlying3 rfl (box_cell ((HS.below hw_).getO 2 rfl) (at47_1 ((HS.below hw_).aO 1 rfl)).int)) ?_
  refine dt_ 4 (Below.refl _ _) (fun w_ hw_ => Run.load rfl rfl Tryz.underlying3 rfl (box_cell ((HS.below hw_).getO 2 rfl) (at47_0 ((HS.below hw_).aO 1 rfl)).int)) ?_
  refine dt_ 6 (Below.refl _ _) (fun w_ hw_ => Run.load rfl rfl Tryz.underlying3 rfl (box_cell ((HS.below hw_).getO 2 rfl) (at47_1 ((HS.below hw_).aO 1 rfl)).int)) ?_
  obtain ⟨z4, H⟩ := if_some H
  refine dp_ 7 (fun _ => Run.bin rfl rfl rfl (bin_quo64 z4)) ?_
  obtain ⟨t5, ha6, H⟩ := bind_some H
  refine dcs_ HS HB 8 (w_none rfl) Tryz.func85 (impl_partsOk.runs k A0 c0 l0 x1.f1 (wrap64 (Int.tdiv x1.f0 x1.f1)) t5 _ (HS.getO 0 rfl) hc0 ha6) (fun w7 HS HB => ?_)
  refine dp_ 9 (fun _ => Run.not rfl rfl) ?_
  refine dp_ 10 (fun _ => Run.assign rfl rfl) ?_
  refine dd_ ?_
  clear HB HSW
  refine via_ hK2 ?_
  cases H
  exact rt1 Tryz.f84 rfl rfl hR_ ⟨rfl, HS.b⟩
end Go.Proofs.YtacbkcofcbglhaaGreat.PFnExactCellOk
