/- Functions that the statement reaches, as Lean functions, and the proof that a call of each comes to just its answer; written by this claim's own program. No conditions. -/
import Derived.Test.YtacbkcofcbglhaaGFnExactModelOk2
namespace Go.Proofs.Ytacbkcofcbglhaa.PFnExactModelOk
open Go.RowKit Go.Proofs.YtacbkcofcbglhaaW.PrintWords Go.Proofs.YtacbkcofcbglhaaW.PrintLast Go.Proofs.YtacbkcofcbglhaaW.PrintMore Go.Proofs.Ytacbkcofcbglhaa.XW Go.Proofs.Ytacbkcofcbglhaa.XOp Go.Proofs.Ytacbkcofcbglhaa.XSt Go.Proofs.Ytacbkcofcbglhaa.XDraw
set_option linter.unusedVariables false
set_option linter.unusedSimpArgs false
def laws_eqLayer.g (k : Nat) (x0 : S48) (x1 : S48) : Option Bool := ((laws_eqIntS.f k x0.f0 x1.f0).bind fun t16 => (if t16 = true then ((laws_eqMatrix.g k x0.f1 x1.f1).bind fun t38 => (if t38 = true then ((laws_eqMatrix.g k x0.f2 x1.f2).bind fun t60 => (if t60 = true then ((laws_eqMatrix.g k x0.f3 x1.f3).bind fun t82 => (if t82 = true then ((laws_eqMatrix.g k x0.f4 x1.f4).bind fun t104 => (if t104 = true then ((laws_eqIntS.f k x0.f5 x1.f5).bind fun t118 => (if t118 = true then ((laws_eqMatrix.g k x0.f6 x1.f6).bind fun t140 => (if t140 = true then ((laws_eqMatrix.g k x0.f7 x1.f7).bind fun t162 => (if t162 = true then (some true) else (some false))) else (some false))) else (some false))) else (some false))) else (some false))) else (some false))) else (some false))) else (some false)))
set_option maxHeartbeats 4000000 in
set_option maxRecDepth 20000 in
theorem laws_eqLayer.runs (k : Nat) (cs0 : List Value) (x0 : S48) (cs1 : List Value) (x1 : S48) (r : Bool) (w : World) (hk0 : k48.K w x0 cs0) (hk1 : k48.K w x1 cs1) (H : laws_eqLayer.g k x0 x1 = some r) :
    Calls Try.prog 23 #[.agg cs0.toArray, .agg cs1.toArray] w fun e w' => e = .returned (.bool r) ∧ Below w.heap.size w w' := by
  have el0 : cs0.length = 32 := k48.K_len hk0
  have el1 : cs1.length = 32 := k48.K_len hk1
  unfold laws_eqLayer.g at H
  have HS : St (fun _ => True) w w [] [(fun W => k48.K W x0 cs0), (fun W => k48.K W x1 cs1)] [] := St.start (foot_cons (foot_K h48 hk0) (foot_cons (foot_K h48 hk1) foot_nil))
  refine calls_W Try.func23 rfl rfl (Nat.le_of_ble_eq_true rfl) (fun R_ hR_ => ?_)
  refine WC.seq (fun K1 hK1 => ?_)
  refine WC.region ?_
  refine WL.box HS rfl rfl (by decide) rfl rfl rfl (fun b2 w3 hb2 HS => ?_)
  refine WL.box HS rfl rfl (by decide) rfl rfl rfl (fun b4 w5 hb4 HS => ?_)
  refine as_ ?_
  refine WL.done ?_
  refine WQ.via (fun _ _ h_ => h_) hK1 ?_
  refine WC.seq (fun K6 hK6 => ?_)
  refine WC.seq (fun K7 hK7 => ?_)
  refine WC.region ?_
  refine v_ (Run.fieldAddr rfl rfl Try.underlying48 rfl (by kernel_rfl) rfl) ?_
  obtain ⟨A8, c9, hc10, le11⟩ := (at48_0 (AtK.whole (HS.getO 0 rfl))).slice
  replace HS := HS.deriveO (p := (fun W => (Kd.int .i64).C W A8 x0.f0.length x0.f0)) (fun W_ hO_ hN_ => (at48_0 (AtK.whole (AllF.get 0 rfl hO_))).C hc10)
  refine v_ (Run.load rfl rfl Try.underlying25 rfl (box_cell (HS.mu 1 rfl) hc10)) ?_
  refine v_ (Run.fieldAddr rfl rfl Try.underlying48 rfl (by kernel_rfl) rfl) ?_
  obtain ⟨A12, c13, hc14, le15⟩ := (at48_0 (AtK.whole (HS.getO 2 rfl))).slice
  replace HS := HS.deriveO (p := (fun W => (Kd.int .i64).C W A12 x1.f0.length x1.f0)) (fun W_ hO_ hN_ => (at48_0 (AtK.whole (AllF.get 2 rfl hO_))).C hc14)
  refine v_ (Run.load rfl rfl Try.underlying25 rfl (box_cell (HS.mu 0 rfl) hc14)) ?_
  obtain ⟨t16, ha17, H⟩ := bind_some H
  refine c_ Try.func58 (laws_eqIntS.calls k A8 c9 x0.f0 A12 c13 x1.f0 t16 _ (HS.getO 1 rfl) le11 (HS.getO 0 rfl) le15 ha17) ?_
  rintro _ w18 ⟨rfl, hb⟩
  have hb := hb.below
  replace HS := HS.below hb
  refine ⟨_, rfl, ?_⟩
  clear hb
  refine v_ (Run.not rfl rfl) ?_
  refine WL.done ?_
  refine WQ.via (fun _ _ h_ => h_) hK7 ?_
  by_cases c19 : t16 = true
  · rw [if_pos c19] at H
    refine WC.no rfl (congrArg (fun b_ => !b_) c19) ?_
    refine WC.skip ?_
    refine WQ.via (fun _ _ h_ => h_) hK6 ?_
    refine WC.seq (fun K20 hK20 => ?_)
    refine WC.seq (fun K21 hK21 => ?_)
    refine WC.region ?_
    refine v_ (Run.fieldAddr rfl rfl Try.underlying48 rfl (by kernel_rfl) rfl) ?_
    obtain ⟨A22, c23, hc24, le25⟩ := (at48_2 (AtK.whole (HS.getO 2 rfl))).slice
    replace HS := HS.deriveO (p := (fun W => (Kd.slice 3 (Kd.int .i64)).C W A22 x0.f1.f1.length x0.f1.f1)) (fun W_ hO_ hN_ => (at48_2 (AtK.whole (AllF.get 2 rfl hO_))).C hc24)
    obtain ⟨A26, c27, hc28, le29⟩ := (at48_3 (AtK.whole (HS.getO 3 rfl))).slice
    replace HS := HS.deriveO (p := (fun W => (Kd.slice 3 (Kd.int .i64)).C W A26 x0.f1.f2.length x0.f1.f2)) (fun W_ hO_ hN_ => (at48_3 (AtK.whole (AllF.get 3 rfl hO_))).C hc28)
    refine v_ (Run.loadS (cs := [.int .i64 x0.f1.f0, .slice A22 x0.f1.f1.length c23, .slice A26 x0.f1.f2.length c27, .int .i64 x0.f1.f3, .int .i64 x0.f1.f4]) rfl rfl Try.underlying36 rfl (by kernel_rfl) (box_part (HS.mu 1 rfl) (part_cons (at48_1 (AtK.whole (HS.getO 4 rfl))).int (part_cons hc24 (part_cons hc28 (part_cons (at48_4 (AtK.whole (HS.getO 4 rfl))).int (part_cons (at48_5 (AtK.whole (HS.getO 4 rfl))).int part_nil))))))) ?_
    refine v_ (Run.fieldAddr rfl rfl Try.underlying48 rfl (by kernel_rfl) rfl) ?_
    obtain ⟨A30, c31, hc32, le33⟩ := (at48_2 (AtK.whole (HS.getO 5 rfl))).slice
    replace HS := HS.deriveO (p := (fun W => (Kd.slice 3 (Kd.int .i64)).C W A30 x1.f1.f1.length x1.f1.f1)) (fun W_ hO_ hN_ => (at48_2 (AtK.whole (AllF.get 5 rfl hO_))).C hc32)
    obtain ⟨A34, c35, hc36, le37⟩ := (at48_3 (AtK.whole (HS.getO 6 rfl))).slice
    replace HS := HS.deriveO (p := (fun W => (Kd.slice 3 (Kd.int .i64)).C W A34 x1.f1.f2.length x1.f1.f2)) (fun W_ hO_ hN_ => (at48_3 (AtK.whole (AllF.get 6 rfl hO_))).C hc36)
    refine v_ (Run.loadS (cs := [.int .i64 x1.f1.f0, .slice A30 x1.f1.f1.length c31, .slice A34 x1.f1.f2.length c35, .int .i64 x1.f1.f3, .int .i64 x1.f1.f4]) rfl rfl Try.underlying36 rfl (by kernel_rfl) (box_part (HS.mu 0 rfl) (part_cons (at48_1 (AtK.whole (HS.getO 7 rfl))).int (part_cons hc32 (part_cons hc36 (part_cons (at48_4 (AtK.whole (HS.getO 7 rfl))).int (part_cons (at48_5 (AtK.whole (HS.getO 7 rfl))).int part_nil))))))) ?_
    obtain ⟨t38, ha39, H⟩ := bind_some H
    refine c_ Try.func59 (laws_eqMatrix.runs k x0.f1 A22 c23 A26 c27 x1.f1 A30 c31 A34 c35 t38 _ (HS.getO 3 rfl) le25 (HS.getO 2 rfl) le29 (HS.getO 1 rfl) le33 (HS.getO 0 rfl) le37 ha39) ?_
    rintro _ w40 ⟨rfl, hb⟩
    replace HS := HS.below hb
    refine ⟨_, rfl, ?_⟩
    clear hb
    refine v_ (Run.not rfl rfl) ?_
    refine WL.done ?_
    refine WQ.via (fun _ _ h_ => h_) hK21 ?_
    by_cases c41 : t38 = true
    · rw [if_pos c41] at H
      refine WC.no rfl (congrArg (fun b_ => !b_) c41) ?_
      refine WC.skip ?_
      refine WQ.via (fun _ _ h_ => h_) hK20 ?_
      refine WC.seq (fun K42 hK42 => ?_)
      refine WC.seq (fun K43 hK43 => ?_)
      refine WC.region ?_
      refine v_ (Run.fieldAddr rfl rfl Try.underlying48 rfl (by kernel_rfl) rfl) ?_
      obtain ⟨A44, c45, hc46, le47⟩ := (at48_7 (AtK.whole (HS.getO 6 rfl))).slice
      replace HS := HS.deriveO (p := (fun W => (Kd.slice 3 (Kd.int .i64)).C W A44 x0.f2.f1.length x0.f2.f1)) (fun W_ hO_ hN_ => (at48_7 (AtK.whole (AllF.get 6 rfl hO_))).C hc46)
      obtain ⟨A48, c49, hc50, le51⟩ := (at48_8 (AtK.whole (HS.getO 7 rfl))).slice
      replace HS := HS.deriveO (p := (fun W => (Kd.slice 3 (Kd.int .i64)).C W A48 x0.f2.f2.length x0.f2.f2)) (fun W_ hO_ hN_ => (at48_8 (AtK.whole (AllF.get 7 rfl hO_))).C hc50)
      refine v_ (Run.loadS (cs := [.int .i64 x0.f2.f0, .slice A44 x0.f2.f1.length c45, .slice A48 x0.f2.f2.length c49, .int .i64 x0.f2.f3, .int .i64 x0.f2.f4]) rfl rfl Try.underlying36 rfl (by kernel_rfl) (box_part (HS.mu 1 rfl) (part_cons (at48_6 (AtK.whole (HS.getO 8 rfl))).int (part_cons hc46 (part_cons hc50 (part_cons (at48_9 (AtK.whole (HS.getO 8 rfl))).int (part_cons (at48_10 (AtK.whole (HS.getO 8 rfl))).int part_nil))))))) ?_
      refine v_ (Run.fieldAddr rfl rfl Try.underlying48 rfl (by kernel_rfl) rfl) ?_
      obtain ⟨A52, c53, hc54, le55⟩ := (at48_7 (AtK.whole (HS.getO 9 rfl))).slice
      replace HS := HS.deriveO (p := (fun W => (Kd.slice 3 (Kd.int .i64)).C W A52 x1.f2.f1.length x1.f2.f1)) (fun W_ hO_ hN_ => (at48_7 (AtK.whole (AllF.get 9 rfl hO_))).C hc54)
      obtain ⟨A56, c57, hc58, le59⟩ := (at48_8 (AtK.whole (HS.getO 10 rfl))).slice
      replace HS := HS.deriveO (p := (fun W => (Kd.slice 3 (Kd.int .i64)).C W A56 x1.f2.f2.length x1.f2.f2)) (fun W_ hO_ hN_ => (at48_8 (AtK.whole (AllF.get 10 rfl hO_))).C hc58)
      refine v_ (Run.loadS (cs := [.int .i64 x1.f2.f0, .slice A52 x1.f2.f1.length c53, .slice A56 x1.f2.f2.length c57, .int .i64 x1.f2.f3, .int .i64 x1.f2.f4]) rfl rfl Try.underlying36 rfl (by kernel_rfl) (box_part (HS.mu 0 rfl) (part_cons (at48_6 (AtK.whole (HS.getO 11 rfl))).int (part_cons hc54 (part_cons hc58 (part_cons (at48_9 (AtK.whole (HS.getO 11 rfl))).int (part_cons (at48_10 (AtK.whole (HS.getO 11 rfl))).int part_nil))))))) ?_
      obtain ⟨t60, ha61, H⟩ := bind_some H
      refine c_ Try.func59 (laws_eqMatrix.runs k x0.f2 A44 c45 A48 c49 x1.f2 A52 c53 A56 c57 t60 _ (HS.getO 3 rfl) le47 (HS.getO 2 rfl) le51 (HS.getO 1 rfl) le55 (HS.getO 0 rfl) le59 ha61) ?_
      rintro _ w62 ⟨rfl, hb⟩
      replace HS := HS.below hb
      refine ⟨_, rfl, ?_⟩
      clear hb
      refine v_ (Run.not rfl rfl) ?_
      refine WL.done ?_
      refine WQ.via (fun _ _ h_ => h_) hK43 ?_
      by_cases c63 : t60 = true
      · rw [if_pos c63] at H
        refine WC.no rfl (congrArg (fun b_ => !b_) c63) ?_
        refine WC.skip ?_
        refine WQ.via (fun _ _ h_ => h_) hK42 ?_
        refine WC.seq (fun K64 hK64 => ?_)
        refine WC.seq (fun K65 hK65 => ?_)
        refine WC.region ?_
        refine v_ (Run.fieldAddr rfl rfl Try.underlying48 rfl (by kernel_rfl) rfl) ?_
        obtain ⟨A66, c67, hc68, le69⟩ := (at48_12 (AtK.whole (HS.getO 10 rfl))).slice
        replace HS := HS.deriveO (p := (fun W => (Kd.slice 3 (Kd.int .i64)).C W A66 x0.f3.f1.length x0.f3.f1)) (fun W_ hO_ hN_ => (at48_12 (AtK.whole (AllF.get 10 rfl hO_))).C hc68)
        obtain ⟨A70, c71, hc72, le73⟩ := (at48_13 (AtK.whole (HS.getO 11 rfl))).slice
        replace HS := HS.deriveO (p := (fun W => (Kd.slice 3 (Kd.int .i64)).C W A70 x0.f3.f2.length x0.f3.f2)) (fun W_ hO_ hN_ => (at48_13 (AtK.whole (AllF.get 11 rfl hO_))).C hc72)
        refine v_ (Run.loadS (cs := [.int .i64 x0.f3.f0, .slice A66 x0.f3.f1.length c67, .slice A70 x0.f3.f2.length c71, .int .i64 x0.f3.f3, .int .i64 x0.f3.f4]) rfl rfl Try.underlying36 rfl (by kernel_rfl) (box_part (HS.mu 1 rfl) (part_cons (at48_11 (AtK.whole (HS.getO 12 rfl))).int (part_cons hc68 (part_cons hc72 (part_cons (at48_14 (AtK.whole (HS.getO 12 rfl))).int (part_cons (at48_15 (AtK.whole (HS.getO 12 rfl))).int part_nil))))))) ?_
        refine v_ (Run.fieldAddr rfl rfl Try.underlying48 rfl (by kernel_rfl) rfl) ?_
        obtain ⟨A74, c75, hc76, le77⟩ := (at48_12 (AtK.whole (HS.getO 13 rfl))).slice
        replace HS := HS.deriveO (p := (fun W => (Kd.slice 3 (Kd.int .i64)).C W A74 x1.f3.f1.length x1.f3.f1)) (fun W_ hO_ hN_ => (at48_12 (AtK.whole (AllF.get 13 rfl hO_))).C hc76)
        obtain ⟨A78, c79, hc80, le81⟩ := (at48_13 (AtK.whole (HS.getO 14 rfl))).slice
        replace HS := HS.deriveO (p := (fun W => (Kd.slice 3 (Kd.int .i64)).C W A78 x1.f3.f2.length x1.f3.f2)) (fun W_ hO_ hN_ => (at48_13 (AtK.whole (AllF.get 14 rfl hO_))).C hc80)
        refine v_ (Run.loadS (cs := [.int .i64 x1.f3.f0, .slice A74 x1.f3.f1.length c75, .slice A78 x1.f3.f2.length c79, .int .i64 x1.f3.f3, .int .i64 x1.f3.f4]) rfl rfl Try.underlying36 rfl (by kernel_rfl) (box_part (HS.mu 0 rfl) (part_cons (at48_11 (AtK.whole (HS.getO 15 rfl))).int (part_cons hc76 (part_cons hc80 (part_cons (at48_14 (AtK.whole (HS.getO 15 rfl))).int (part_cons (at48_15 (AtK.whole (HS.getO 15 rfl))).int part_nil))))))) ?_
        obtain ⟨t82, ha83, H⟩ := bind_some H
        refine c_ Try.func59 (laws_eqMatrix.runs k x0.f3 A66 c67 A70 c71 x1.f3 A74 c75 A78 c79 t82 _ (HS.getO 3 rfl) le69 (HS.getO 2 rfl) le73 (HS.getO 1 rfl) le77 (HS.getO 0 rfl) le81 ha83) ?_
        rintro _ w84 ⟨rfl, hb⟩
        replace HS := HS.below hb
        refine ⟨_, rfl, ?_⟩
        clear hb
        refine v_ (Run.not rfl rfl) ?_
        refine WL.done ?_
        refine WQ.via (fun _ _ h_ => h_) hK65 ?_
        by_cases c85 : t82 = true
        · rw [if_pos c85] at H
          refine WC.no rfl (congrArg (fun b_ => !b_) c85) ?_
          refine WC.skip ?_
          refine WQ.via (fun _ _ h_ => h_) hK64 ?_
          refine WC.seq (fun K86 hK86 => ?_)
          refine WC.seq (fun K87 hK87 => ?_)
          refine WC.region ?_
          refine v_ (Run.fieldAddr rfl rfl Try.underlying48 rfl (by kernel_rfl) rfl) ?_
          obtain ⟨A88, c89, hc90, le91⟩ := (at48_17 (AtK.whole (HS.getO 14 rfl))).slice
          replace HS := HS.deriveO (p := (fun W => (Kd.slice 3 (Kd.int .i64)).C W A88 x0.f4.f1.length x0.f4.f1)) (fun W_ hO_ hN_ => (at48_17 (AtK.whole (AllF.get 14 rfl hO_))).C hc90)
          obtain ⟨A92, c93, hc94, le95⟩ := (at48_18 (AtK.whole (HS.getO 15 rfl))).slice
          replace HS := HS.deriveO (p := (fun W => (Kd.slice 3 (Kd.int .i64)).C W A92 x0.f4.f2.length x0.f4.f2)) (fun W_ hO_ hN_ => (at48_18 (AtK.whole (AllF.get 15 rfl hO_))).C hc94)
          refine v_ (Run.loadS (cs := [.int .i64 x0.f4.f0, .slice A88 x0.f4.f1.length c89, .slice A92 x0.f4.f2.length c93, .int .i64 x0.f4.f3, .int .i64 x0.f4.f4]) rfl rfl Try.underlying36 rfl (by kernel_rfl) (box_part (HS.mu 1 rfl) (part_cons (at48_16 (AtK.whole (HS.getO 16 rfl))).int (part_cons hc90 (part_cons hc94 (part_cons (at48_19 (AtK.whole (HS.getO 16 rfl))).int (part_cons (at48_20 (AtK.whole (HS.getO 16 rfl))).int part_nil))))))) ?_
          refine v_ (Run.fieldAddr rfl rfl Try.underlying48 rfl (by kernel_rfl) rfl) ?_
          obtain ⟨A96, c97, hc98, le99⟩ := (at48_17 (AtK.whole (HS.getO 17 rfl))).slice
          replace HS := HS.deriveO (p := (fun W => (Kd.slice 3 (Kd.int .i64)).C W A96 x1.f4.f1.length x1.f4.f1)) (fun W_ hO_ hN_ => (at48_17 (AtK.whole (AllF.get 17 rfl hO_))).C hc98)
          obtain ⟨A100, c101, hc102, le103⟩ := (at48_18 (AtK.whole (HS.getO 18 rfl))).slice
          replace HS := HS.deriveO (p := (fun W => (Kd.slice 3 (Kd.int .i64)).C W A100 x1.f4.f2.length x1.f4.f2)) (fun W_ hO_ hN_ => (at48_18 (AtK.whole (AllF.get 18 rfl hO_))).C hc102)
          refine v_ (Run.loadS (cs := [.int .i64 x1.f4.f0, .slice A96 x1.f4.f1.length c97, .slice A100 x1.f4.f2.length c101, .int .i64 x1.f4.f3, .int .i64 x1.f4.f4]) rfl rfl Try.underlying36 rfl (by kernel_rfl) (box_part (HS.mu 0 rfl) (part_cons (at48_16 (AtK.whole (HS.getO 19 rfl))).int (part_cons hc98 (part_cons hc102 (part_cons (at48_19 (AtK.whole (HS.getO 19 rfl))).int (part_cons (at48_20 (AtK.whole (HS.getO 19 rfl))).int part_nil))))))) ?_
          obtain ⟨t104, ha105, H⟩ := bind_some H
          refine c_ Try.func59 (laws_eqMatrix.runs k x0.f4 A88 c89 A92 c93 x1.f4 A96 c97 A100 c101 t104 _ (HS.getO 3 rfl) le91 (HS.getO 2 rfl) le95 (HS.getO 1 rfl) le99 (HS.getO 0 rfl) le103 ha105) ?_
          rintro _ w106 ⟨rfl, hb⟩
          replace HS := HS.below hb
          refine ⟨_, rfl, ?_⟩
          clear hb
          refine v_ (Run.not rfl rfl) ?_
          refine WL.done ?_
          refine WQ.via (fun _ _ h_ => h_) hK87 ?_
          by_cases c107 : t104 = true
          · rw [if_pos c107] at H
            refine WC.no rfl (congrArg (fun b_ => !b_) c107) ?_
            refine WC.skip ?_
            refine WQ.via (fun _ _ h_ => h_) hK86 ?_
            refine WC.seq (fun K108 hK108 => ?_)
            refine WC.seq (fun K109 hK109 => ?_)
            refine WC.region ?_
            refine v_ (Run.fieldAddr rfl rfl Try.underlying48 rfl (by kernel_rfl) rfl) ?_
            obtain ⟨A110, c111, hc112, le113⟩ := (at48_21 (AtK.whole (HS.getO 18 rfl))).slice
            replace HS := HS.deriveO (p := (fun W => (Kd.int .i64).C W A110 x0.f5.length x0.f5)) (fun W_ hO_ hN_ => (at48_21 (AtK.whole (AllF.get 18 rfl hO_))).C hc112)
            refine v_ (Run.load rfl rfl Try.underlying25 rfl (box_cell (HS.mu 1 rfl) hc112)) ?_
            refine v_ (Run.fieldAddr rfl rfl Try.underlying48 rfl (by kernel_rfl) rfl) ?_
            obtain ⟨A114, c115, hc116, le117⟩ := (at48_21 (AtK.whole (HS.getO 20 rfl))).slice
            replace HS := HS.deriveO (p := (fun W => (Kd.int .i64).C W A114 x1.f5.length x1.f5)) (fun W_ hO_ hN_ => (at48_21 (AtK.whole (AllF.get 20 rfl hO_))).C hc116)
            refine v_ (Run.load rfl rfl Try.underlying25 rfl (box_cell (HS.mu 0 rfl) hc116)) ?_
            obtain ⟨t118, ha119, H⟩ := bind_some H
            refine c_ Try.func58 (laws_eqIntS.calls k A110 c111 x0.f5 A114 c115 x1.f5 t118 _ (HS.getO 1 rfl) le113 (HS.getO 0 rfl) le117 ha119) ?_
            rintro _ w120 ⟨rfl, hb⟩
            have hb := hb.below
            replace HS := HS.below hb
            refine ⟨_, rfl, ?_⟩
            clear hb
            refine v_ (Run.not rfl rfl) ?_
            refine WL.done ?_
            refine WQ.via (fun _ _ h_ => h_) hK109 ?_
            by_cases c121 : t118 = true
            · rw [if_pos c121] at H
              refine WC.no rfl (congrArg (fun b_ => !b_) c121) ?_
              refine WC.skip ?_
              refine WQ.via (fun _ _ h_ => h_) hK108 ?_
              refine WC.seq (fun K122 hK122 => ?_)
              refine WC.seq (fun K123 hK123 => ?_)
              refine WC.region ?_
              refine v_ (Run.fieldAddr rfl rfl Try.underlying48 rfl (by kernel_rfl) rfl) ?_
              obtain ⟨A124, c125, hc126, le127⟩ := (at48_23 (AtK.whole (HS.getO 20 rfl))).slice
              replace HS := HS.deriveO (p := (fun W => (Kd.slice 3 (Kd.int .i64)).C W A124 x0.f6.f1.length x0.f6.f1)) (fun W_ hO_ hN_ => (at48_23 (AtK.whole (AllF.get 20 rfl hO_))).C hc126)
              obtain ⟨A128, c129, hc130, le131⟩ := (at48_24 (AtK.whole (HS.getO 21 rfl))).slice
              replace HS := HS.deriveO (p := (fun W => (Kd.slice 3 (Kd.int .i64)).C W A128 x0.f6.f2.length x0.f6.f2)) (fun W_ hO_ hN_ => (at48_24 (AtK.whole (AllF.get 21 rfl hO_))).C hc130)
              refine v_ (Run.loadS (cs := [.int .i64 x0.f6.f0, .slice A124 x0.f6.f1.length c125, .slice A128 x0.f6.f2.length c129, .int .i64 x0.f6.f3, .int .i64 x0.f6.f4]) rfl rfl Try.underlying36 rfl (by kernel_rfl) (box_part (HS.mu 1 rfl) (part_cons (at48_22 (AtK.whole (HS.getO 22 rfl))).int (part_cons hc126 (part_cons hc130 (part_cons (at48_25 (AtK.whole (HS.getO 22 rfl))).int (part_cons (at48_26 (AtK.whole (HS.getO 22 rfl))).int part_nil))))))) ?_
              refine v_ (Run.fieldAddr rfl rfl Try.underlying48 rfl (by kernel_rfl) rfl) ?_
              obtain ⟨A132, c133, hc134, le135⟩ := (at48_23 (AtK.whole (HS.getO 23 rfl))).slice
              replace HS := HS.deriveO (p := (fun W => (Kd.slice 3 (Kd.int .i64)).C W A132 x1.f6.f1.length x1.f6.f1)) (fun W_ hO_ hN_ => (at48_23 (AtK.whole (AllF.get 23 rfl hO_))).C hc134)
              obtain ⟨A136, c137, hc138, le139⟩ := (at48_24 (AtK.whole (HS.getO 24 rfl))).slice
              replace HS := HS.deriveO (p := (fun W => (Kd.slice 3 (Kd.int .i64)).C W A136 x1.f6.f2.length x1.f6.f2)) (fun W_ hO_ hN_ => (at48_24 (AtK.whole (AllF.get 24 rfl hO_))).C hc138)
              refine v_ (Run.loadS (cs := [.int .i64 x1.f6.f0, .slice A132 x1.f6.f1.length c133, .slice A136 x1.f6.f2.length c137, .int .i64 x1.f6.f3, .int .i64 x1.f6.f4]) rfl rfl Try.underlying36 rfl (by kernel_rfl) (box_part (HS.mu 0 rfl) (part_cons (at48_22 (AtK.whole (HS.getO 25 rfl))).int (part_cons hc134 (part_cons hc138 (part_cons (at48_25 (AtK.whole (HS.getO 25 rfl))).int (part_cons (at48_26 (AtK.whole (HS.getO 25 rfl))).int part_nil))))))) ?_
              obtain ⟨t140, ha141, H⟩ := bind_some H
              refine c_ Try.func59 (laws_eqMatrix.runs k x0.f6 A124 c125 A128 c129 x1.f6 A132 c133 A136 c137 t140 _ (HS.getO 3 rfl) le127 (HS.getO 2 rfl) le131 (HS.getO 1 rfl) le135 (HS.getO 0 rfl) le139 ha141) ?_
              rintro _ w142 ⟨rfl, hb⟩
              replace HS := HS.below hb
              refine ⟨_, rfl, ?_⟩
              clear hb
              refine v_ (Run.not rfl rfl) ?_
              refine WL.done ?_
              refine WQ.via (fun _ _ h_ => h_) hK123 ?_
              by_cases c143 : t140 = true
              · rw [if_pos c143] at H
                refine WC.no rfl (congrArg (fun b_ => !b_) c143) ?_
                refine WC.skip ?_
                refine WQ.via (fun _ _ h_ => h_) hK122 ?_
                refine WC.seq (fun K144 hK144 => ?_)
                refine WC.seq (fun K145 hK145 => ?_)
                refine WC.region ?_
                refine v_ (Run.fieldAddr rfl rfl Try.underlying48 rfl (by kernel_rfl) rfl) ?_
                obtain ⟨A146, c147, hc148, le149⟩ := (at48_28 (AtK.whole (HS.getO 24 rfl))).slice
                replace HS := HS.deriveO (p := (fun W => (Kd.slice 3 (Kd.int .i64)).C W A146 x0.f7.f1.length x0.f7.f1)) (fun W_ hO_ hN_ => (at48_28 (AtK.whole (AllF.get 24 rfl hO_))).C hc148)
                obtain ⟨A150, c151, hc152, le153⟩ := (at48_29 (AtK.whole (HS.getO 25 rfl))).slice
                replace HS := HS.deriveO (p := (fun W => (Kd.slice 3 (Kd.int .i64)).C W A150 x0.f7.f2.length x0.f7.f2)) (fun W_ hO_ hN_ => (at48_29 (AtK.whole (AllF.get 25 rfl hO_))).C hc152)
                refine v_ (Run.loadS (cs := [.int .i64 x0.f7.f0, .slice A146 x0.f7.f1.length c147, .slice A150 x0.f7.f2.length c151, .int .i64 x0.f7.f3, .int .i64 x0.f7.f4]) rfl rfl Try.underlying36 rfl (by kernel_rfl) (box_part (HS.mu 1 rfl) (part_cons (at48_27 (AtK.whole (HS.getO 26 rfl))).int (part_cons hc148 (part_cons hc152 (part_cons (at48_30 (AtK.whole (HS.getO 26 rfl))).int (part_cons (at48_31 (AtK.whole (HS.getO 26 rfl))).int part_nil))))))) ?_
                refine v_ (Run.fieldAddr rfl rfl Try.underlying48 rfl (by kernel_rfl) rfl) ?_
                obtain ⟨A154, c155, hc156, le157⟩ := (at48_28 (AtK.whole (HS.getO 27 rfl))).slice
                replace HS := HS.deriveO (p := (fun W => (Kd.slice 3 (Kd.int .i64)).C W A154 x1.f7.f1.length x1.f7.f1)) (fun W_ hO_ hN_ => (at48_28 (AtK.whole (AllF.get 27 rfl hO_))).C hc156)
                obtain ⟨A158, c159, hc160, le161⟩ := (at48_29 (AtK.whole (HS.getO 28 rfl))).slice
                replace HS := HS.deriveO (p := (fun W => (Kd.slice 3 (Kd.int .i64)).C W A158 x1.f7.f2.length x1.f7.f2)) (fun W_ hO_ hN_ => (at48_29 (AtK.whole (AllF.get 28 rfl hO_))).C hc160)
                refine v_ (Run.loadS (cs := [.int .i64 x1.f7.f0, .slice A154 x1.f7.f1.length c155, .slice A158 x1.f7.f2.length c159, .int .i64 x1.f7.f3, .int .i64 x1.f7.f4]) rfl rfl Try.underlying36 rfl (by kernel_rfl) (box_part (HS.mu 0 rfl) (part_cons (at48_27 (AtK.whole (HS.getO 29 rfl))).int (part_cons hc156 (part_cons hc160 (part_cons (at48_30 (AtK.whole (HS.getO 29 rfl))).int (part_cons (at48_31 (AtK.whole (HS.getO 29 rfl))).int part_nil))))))) ?_
                obtain ⟨t162, ha163, H⟩ := bind_some H
                refine c_ Try.func59 (laws_eqMatrix.runs k x0.f7 A146 c147 A150 c151 x1.f7 A154 c155 A158 c159 t162 _ (HS.getO 3 rfl) le149 (HS.getO 2 rfl) le153 (HS.getO 1 rfl) le157 (HS.getO 0 rfl) le161 ha163) ?_
                rintro _ w164 ⟨rfl, hb⟩
                replace HS := HS.below hb
                refine ⟨_, rfl, ?_⟩
                clear hb
                refine v_ (Run.not rfl rfl) ?_
                refine WL.done ?_
                refine WQ.via (fun _ _ h_ => h_) hK145 ?_
                by_cases c165 : t162 = true
                · rw [if_pos c165] at H
                  refine WC.no rfl (congrArg (fun b_ => !b_) c165) ?_
                  refine WC.skip ?_
                  refine WQ.via (fun _ _ h_ => h_) hK144 ?_
                  refine WC.seq (fun K166 hK166 => ?_)
                  refine WC.region ?_
                  refine as_ ?_
                  refine WL.done ?_
                  refine WQ.via (fun _ _ h_ => h_) hK166 ?_
                  refine WC.ret ?_
                  obtain rfl := Option.some.inj H
                  refine WQ.fin (e' := .ret) (fn := Try.f23) (fun _ _ h_ => h_) (WQ.ret1 rfl rfl ?_)
                  exact hR_ _ _ ⟨rfl, HS.b⟩
                · rw [if_neg c165] at H
                  refine WC.yes rfl (congrArg (fun b_ => !b_) (Bool.eq_false_iff.mpr c165)) ?_
                  refine WC.seq (fun K167 hK167 => ?_)
                  refine WC.region ?_
                  refine as_ ?_
                  refine WL.done ?_
                  refine WQ.via (fun _ _ h_ => h_) hK167 ?_
                  refine WC.ret ?_
                  obtain rfl := Option.some.inj H
                  refine WQ.fin (e' := .ret) (fn := Try.f23) (fun _ _ h_ => h_) (WQ.ret1 rfl rfl ?_)
                  exact hR_ _ _ ⟨rfl, HS.b⟩
              · rw [if_neg c143] at H
                refine WC.yes rfl (congrArg (fun b_ => !b_) (Bool.eq_false_iff.mpr c143)) ?_
                refine WC.seq (fun K168 hK168 => ?_)
                refine WC.region ?_
                refine as_ ?_
                refine WL.done ?_
                refine WQ.via (fun _ _ h_ => h_) hK168 ?_
                refine WC.ret ?_
                obtain rfl := Option.some.inj H
                refine WQ.fin (e' := .ret) (fn := Try.f23) (fun _ _ h_ => h_) (WQ.ret1 rfl rfl ?_)
                exact hR_ _ _ ⟨rfl, HS.b⟩
            · rw [if_neg c121] at H
              refine WC.yes rfl (congrArg (fun b_ => !b_) (Bool.eq_false_iff.mpr c121)) ?_
              refine WC.seq (fun K169 hK169 => ?_)
              refine WC.region ?_
              refine as_ ?_
              refine WL.done ?_
              refine WQ.via (fun _ _ h_ => h_) hK169 ?_
              refine WC.ret ?_
              obtain rfl := Option.some.inj H
              refine WQ.fin (e' := .ret) (fn := Try.f23) (fun _ _ h_ => h_) (WQ.ret1 rfl rfl ?_)
              exact hR_ _ _ ⟨rfl, HS.b⟩
          · rw [if_neg c107] at H
            refine WC.yes rfl (congrArg (fun b_ => !b_) (Bool.eq_false_iff.mpr c107)) ?_
            refine WC.seq (fun K170 hK170 => ?_)
            refine WC.region ?_
            refine as_ ?_
            refine WL.done ?_
            refine WQ.via (fun _ _ h_ => h_) hK170 ?_
            refine WC.ret ?_
            obtain rfl := Option.some.inj H
            refine WQ.fin (e' := .ret) (fn := Try.f23) (fun _ _ h_ => h_) (WQ.ret1 rfl rfl ?_)
            exact hR_ _ _ ⟨rfl, HS.b⟩
        · rw [if_neg c85] at H
          refine WC.yes rfl (congrArg (fun b_ => !b_) (Bool.eq_false_iff.mpr c85)) ?_
          refine WC.seq (fun K171 hK171 => ?_)
          refine WC.region ?_
          refine as_ ?_
          refine WL.done ?_
          refine WQ.via (fun _ _ h_ => h_) hK171 ?_
          refine WC.ret ?_
          obtain rfl := Option.some.inj H
          refine WQ.fin (e' := .ret) (fn := Try.f23) (fun _ _ h_ => h_) (WQ.ret1 rfl rfl ?_)
          exact hR_ _ _ ⟨rfl, HS.b⟩
      · rw [if_neg c63] at H
        refine WC.yes rfl (congrArg (fun b_ => !b_) (Bool.eq_false_iff.mpr c63)) ?_
        refine WC.seq (fun K172 hK172 => ?_)
        refine WC.region ?_
        refine as_ ?_
        refine WL.done ?_
        refine WQ.via (fun _ _ h_ => h_) hK172 ?_
        refine WC.ret ?_
        obtain rfl := Option.some.inj H
        refine WQ.fin (e' := .ret) (fn := Try.f23) (fun _ _ h_ => h_) (WQ.ret1 rfl rfl ?_)
        exact hR_ _ _ ⟨rfl, HS.b⟩
    · rw [if_neg c41] at H
      refine WC.yes rfl (congrArg (fun b_ => !b_) (Bool.eq_false_iff.mpr c41)) ?_
      refine WC.seq (fun K173 hK173 => ?_)
      refine WC.region ?_
      refine as_ ?_
      refine WL.done ?_
      refine WQ.via (fun _ _ h_ => h_) hK173 ?_
      refine WC.ret ?_
      obtain rfl := Option.some.inj H
      refine WQ.fin (e' := .ret) (fn := Try.f23) (fun _ _ h_ => h_) (WQ.ret1 rfl rfl ?_)
      exact hR_ _ _ ⟨rfl, HS.b⟩
  · rw [if_neg c19] at H
    refine WC.yes rfl (congrArg (fun b_ => !b_) (Bool.eq_false_iff.mpr c19)) ?_
    refine WC.seq (fun K174 hK174 => ?_)
    refine WC.region ?_
    refine as_ ?_
    refine WL.done ?_
    refine WQ.via (fun _ _ h_ => h_) hK174 ?_
    refine WC.ret ?_
    obtain rfl := Option.some.inj H
    refine WQ.fin (e' := .ret) (fn := Try.f23) (fun _ _ h_ => h_) (WQ.ret1 rfl rfl ?_)
    exact hR_ _ _ ⟨rfl, HS.b⟩
def laws_eqLayerS.b0 (l0 : List S48) (l1 : List S48) (rec_ : Int → Option (Bool ⊕ Int)) (k17 : Nat) (i11 : Int) : Option (Bool ⊕ Int) := (if i11 < (l0.length : Int) then (if 0 ≤ i11 ∧ i11 < (l0.length : Int) then (if 0 ≤ i11 ∧ i11 < (l1.length : Int) then ((laws_eqLayer.g k17 (l0.getD i11.toNat o48) (l1.getD i11.toNat o48)).bind fun t34 => (if t34 = true then (rec_ (wrap64 (i11 + 1))) else (some (Sum.inl false)))) else none) else none) else (some (Sum.inr i11)))
def laws_eqLayerS.l0 (l0 : List S48) (l1 : List S48) : Nat → Int → Option (Bool ⊕ Int)
  | 0, _ => none
  | k + 1, i11 => laws_eqLayerS.b0 l0 l1 (laws_eqLayerS.l0 l0 l1 k) k i11
def laws_eqLayerS.g (k : Nat) (l0 : List S48) (l1 : List S48) : Option Bool := (if (l0.length : Int) = (l1.length : Int) then ((laws_eqLayerS.l0 l0 l1 k 0).bind (fun o15 => match o15 with | .inl r_ => some r_ | .inr i11 => (some true))) else (some false))
set_option maxHeartbeats 4000000 in
set_option maxRecDepth 20000 in
theorem laws_eqLayerS.runs (k : Nat) (A0 : Option Addr) (c0 : Nat) (l0 : List S48) (A1 : Option Addr) (c1 : Nat) (l1 : List S48) (r : Bool) (w : World) (hr0 : k48.C w A0 l0.length l0) (hc0 : l0.length ≤ c0) (hr1 : k48.C w A1 l1.length l1) (hc1 : l1.length ≤ c1) (H : laws_eqLayerS.g k l0 l1 = some r) :
    Calls Try.prog 57 #[.slice A0 l0.length c0, .slice A1 l1.length c1] w fun e w' => e = .returned (.bool r) ∧ Below w.heap.size w w' := by
  unfold laws_eqLayerS.g at H
  have HS : St (fun _ => True) w w [] [(fun W => k48.C W A0 l0.length l0), (fun W => k48.C W A1 l1.length l1)] [] := St.start (foot_cons (foot_C h48 hr0) (foot_cons (foot_C h48 hr1) foot_nil))
  refine calls_W Try.func57 rfl rfl (Nat.le_of_ble_eq_true rfl) (fun R_ hR_ => ?_)
  refine WC.seq (fun K1 hK1 => ?_)
  refine WC.region ?_
  refine as_ ?_
  refine WL.done ?_
  refine WQ.via (fun _ _ h_ => h_) hK1 ?_
  refine WC.seq (fun K2 hK2 => ?_)
  refine WC.seq (fun K3 hK3 => ?_)
  refine WC.region ?_
  refine mv_ ?_
  refine v_ (Run.len (ts := #[]) rfl Try.underlying35 rfl) ?_
  refine mv_ ?_
  refine v_ (Run.len (ts := #[]) rfl Try.underlying35 rfl) ?_
  refine v_ (Run.bin rfl rfl rfl bin_neq) ?_
  refine WL.done ?_
  refine WQ.via (fun _ _ h_ => h_) hK3 ?_
  by_cases c4 : (l0.length : Int) = (l1.length : Int)
  · rw [if_pos c4] at H
    refine WC.no rfl (bne_eq_false_iff_eq.mpr c4) ?_
    refine WC.skip ?_
    refine WQ.via (fun _ _ h_ => h_) hK2 ?_
    refine WC.seq (fun K5 hK5 => ?_)
    refine WC.seq (fun K6 hK6 => ?_)
    refine WC.region ?_
    refine as_ ?_
    refine WL.done ?_
    refine WQ.via (fun _ _ h_ => h_) hK6 ?_
    refine WC.block ?_
    obtain ⟨G7, hG8, o9, H, Ho10⟩ := open_G H
    have X12 : ∀ E_ W_, (∃ (i11 : Int), E_ = [(0, .slice A0 l0.length c0), (1, .slice A1 l1.length c1), (5, .int .i64 i11)] ∧ G7 (Sum.inr i11) = some r ∧ St (fun _ => True) w W_ [] [(fun W => k48.C W A0 l0.length l0), (fun W => k48.C W A1 l1.length l1)] []) → ∀ a, Fits a 27 E_ → K5 a W_ := by
      rintro E_ w13 ⟨i11, rfl, H, HS⟩
      rw [hG8] at H
      (try dsimp only at H)
      refine hK5 _ _ ?_
      refine WC.seq (fun K14 hK14 => ?_)
      refine WC.region ?_
      refine as_ ?_
      refine WL.done ?_
      refine WQ.via (fun _ _ h_ => h_) hK14 ?_
      refine WC.ret ?_
      obtain rfl := Option.some.inj H
      refine WQ.fin (e' := .ret) (fn := Try.f57) (fun _ _ h_ => h_) (WQ.ret1 rfl rfl ?_)
      exact hR_ _ _ ⟨rfl, HS.b⟩
    refine WC.loop (fun k_ E_ W_ => ∃ (i11 : Int), E_ = [(0, .slice A0 l0.length c0), (1, .slice A1 l1.length c1), (5, .int .i64 i11)] ∧ (∃ o_, laws_eqLayerS.l0 l0 l1 k_ i11 = some o_ ∧ G7 o_ = some r) ∧ St (fun _ => True) w W_ [] [(fun W => k48.C W A0 l0.length l0), (fun W => k48.C W A1 l1.length l1)] []) k ⟨0, rfl, ⟨_, H, Ho10⟩, (St.pick HS (fun W_ h_ => ⟨AllF.get 0 rfl h_, AllF.get 1 rfl h_, trivial⟩) (fun W_ h_ => trivial))⟩ ⟨rfl, rfl, rfl, trivial⟩ ?_
    rintro k_ E_ w16 ⟨i11, rfl, ⟨o9, H, Ho10⟩, HS⟩
    rcases k_ with _ | k17
    · exact (Option.some_ne_none _ (show none = some _ from H).symm).elim
    replace H : laws_eqLayerS.b0 l0 l1 (laws_eqLayerS.l0 l0 l1 k17) k17 i11 = some o9 := H
    unfold laws_eqLayerS.b0 at H
    refine WC.seq (fun K18 hK18 => ?_)
    refine WC.seq (fun K19 hK19 => ?_)
    refine WC.region ?_
    refine mv_ ?_
    refine mv_ ?_
    refine v_ (Run.len (ts := #[]) rfl Try.underlying35 rfl) ?_
    refine v_ (Run.bin rfl rfl rfl bin_lss) ?_
    refine WL.done ?_
    refine WQ.via (fun _ _ h_ => h_) hK19 ?_
    by_cases c20 : i11 < (l0.length : Int)
    · rw [if_pos c20] at H
      refine WC.yes rfl (decide_eq_true c20) ?_
      refine WC.skip ?_
      refine WQ.via (fun _ _ h_ => h_) hK18 ?_
      refine WC.seq (fun K21 hK21 => ?_)
      refine WC.block ?_
      refine WC.seq (fun K22 hK22 => ?_)
      refine WC.drawS HS [] rfl rfl (fun w23 HS => ?_)
      have HB := Below.refl w23.heap.size w23
      have HSW := HS
      refine dp_ 0 (fun _ => Run.move rfl rfl) ?_
      refine dp_ 1 (fun _ => Run.move rfl rfl) ?_
      obtain ⟨⟨q24, q25⟩, H⟩ := if_some H
      obtain ⟨ad26, rfl⟩ := C_open (HS.getO 0 rfl) (by omega)
      refine dp_ 2 (fun _ => Run.indexAddr rfl rfl rfl Try.underlying35 (sz := 32) (by kernel_rfl) q24 q25) ?_
      refine dp_ 4 (fun _ => Run.move rfl rfl) ?_
      refine dp_ 5 (fun _ => Run.move rfl rfl) ?_
      obtain ⟨⟨q27, q28⟩, H⟩ := if_some H
      obtain ⟨ad29, rfl⟩ := C_open (HS.getO 1 rfl) (by omega)
      refine dp_ 6 (fun _ => Run.indexAddr rfl rfl rfl Try.underlying35 (sz := 32) (by kernel_rfl) q27 q28) ?_
      obtain ⟨e30, el31, HS⟩ := HS.elO 0 rfl (by decide) o48 i11 q24 q25
      replace HS := HS.deriveO (p := (fun W => k48.K W (l0.getD i11.toNat o48) e30)) (fun W_ hO_ hN_ => (AllF.get 0 rfl hO_).1)
      refine dt_ 3 (Below.refl _ _) (fun w_ hw_ => Run.loadS (cs := e30) rfl rfl Try.underlying48 rfl (by rw [el31]; kernel_rfl) ((HS.below hw_).getO 1 rfl).2) ?_
      obtain ⟨e32, el33, HS⟩ := HS.elO 3 rfl (by decide) o48 i11 q27 q28
      replace HS := HS.deriveO (p := (fun W => k48.K W (l1.getD i11.toNat o48) e32)) (fun W_ hO_ hN_ => (AllF.get 0 rfl hO_).1)
      refine dt_ 7 (Below.refl _ _) (fun w_ hw_ => Run.loadS (cs := e32) rfl rfl Try.underlying48 rfl (by rw [el33]; kernel_rfl) ((HS.below hw_).getO 1 rfl).2) ?_
      obtain ⟨t34, ha35, H⟩ := bind_some H
      refine dc_ 8 (w_none rfl) Try.func23 (laws_eqLayer.runs k17 e30 (l0.getD i11.toNat o48) e32 (l1.getD i11.toNat o48) t34 _ (HS.getO 2 rfl) (HS.getO 0 rfl) ha35) ?_
      rintro _ w36 ⟨rfl, hb⟩
      replace HB := HB.trans (hb.mono HB.size)
      replace HS := HS.below hb
      refine ⟨HB, _, rfl, ?_⟩
      clear hb
      refine dp_ 9 (fun _ => Run.not rfl rfl) ?_
      refine WD.done (by kernel_rfl) ?_
      clear HB HSW
      refine WQ.via (fun _ _ h_ => h_) hK22 ?_
      by_cases c37 : t34 = true
      · rw [if_pos c37] at H
        refine WC.no rfl (congrArg (fun b_ => !b_) c37) ?_
        refine WC.skip ?_
        refine WQ.via (fun _ _ h_ => h_) hK21 ?_
        refine WC.region ?_
        refine mv_ ?_
        refine v_ (Run.bin rfl rfl rfl bin_add64) ?_
        refine as_ ?_
        refine WL.done ?_
        exact WQ.round k17 (fun _ _ h_ => h_) (Nat.lt_succ_self _) ⟨(wrap64 (i11 + 1)), rfl, ⟨_, H, Ho10⟩, (St.pick HS (fun W_ h_ => ⟨AllF.get 4 rfl h_, AllF.get 5 rfl h_, trivial⟩) (fun W_ h_ => trivial))⟩ ⟨rfl, rfl, rfl, trivial⟩
      · rw [if_neg c37] at H
        refine WC.yes rfl (congrArg (fun b_ => !b_) (Bool.eq_false_iff.mpr c37)) ?_
        refine WC.seq (fun K38 hK38 => ?_)
        refine WC.region ?_
        refine as_ ?_
        refine WL.done ?_
        refine WQ.via (fun _ _ h_ => h_) hK38 ?_
        refine WC.ret ?_
        obtain rfl := Option.some.inj H
        rw [hG8] at Ho10
        replace H : some _ = some _ := Ho10
        obtain rfl := Option.some.inj H
        refine WQ.fin (e' := .ret) (fn := Try.f57) (fun _ _ h_ => h_) (WQ.ret1 rfl rfl ?_)
        exact hR_ _ _ ⟨rfl, HS.b⟩
    · rw [if_neg c20] at H
      refine WC.no rfl (decide_eq_false c20) ?_
      refine WC.exit ?_
      obtain rfl := Option.some.inj H
      exact WQ.via2 (fun _ _ h_ => h_) X12 ⟨i11, rfl, Ho10, (St.pick HS (fun W_ h_ => ⟨AllF.get 0 rfl h_, AllF.get 1 rfl h_, trivial⟩) (fun W_ h_ => trivial))⟩ ⟨rfl, rfl, rfl, trivial⟩
  · rw [if_neg c4] at H
    refine WC.yes rfl (bne_iff_ne.mpr c4) ?_
    refine WC.seq (fun K39 hK39 => ?_)
    refine WC.region ?_
    refine as_ ?_
    refine WL.done ?_
    refine WQ.via (fun _ _ h_ => h_) hK39 ?_
    refine WC.ret ?_
    obtain rfl := Option.some.inj H
    refine WQ.fin (e' := .ret) (fn := Try.f57) (fun _ _ h_ => h_) (WQ.ret1 rfl rfl ?_)
    exact hR_ _ _ ⟨rfl, HS.b⟩
def laws_eqModel.g (k : Nat) (x0 : S39) (x1 : S39) : Option Bool := (if x0.f0 = x1.f0 then (if x0.f1 = x1.f1 then (if x0.f2 = x1.f2 then ((laws_eqMergeS.g k x0.f3 x1.f3).bind fun t25 => (if t25 = true then ((laws_eqIntSS.f k x0.f4 x1.f4).bind fun t39 => (if t39 = true then ((laws_eqLayerS.g k x0.f5 x1.f5).bind fun t53 => (if t53 = true then ((laws_eqIntS.f k x0.f6 x1.f6).bind fun t67 => (if t67 = true then ((laws_eqMatrix.g k x0.f7 x1.f7).bind fun t89 => (if t89 = true then ((laws_eqTurns.g k x0.f8 x1.f8).bind fun t111 => (if t111 = true then (some true) else (some false))) else (some false))) else (some false))) else (some false))) else (some false))) else (some false))) else (some false)) else (some false)) else (some false))
set_option maxHeartbeats 4000000 in
set_option maxRecDepth 20000 in
theorem laws_eqModel.runs (k : Nat) (cs0 : List Value) (x0 : S39) (cs1 : List Value) (x1 : S39) (r : Bool) (w : World) (hk0 : k39.K w x0 cs0) (hk1 : k39.K w x1 cs1) (H : laws_eqModel.g k x0 x1 = some r) :
    Calls Try.prog 18 #[.agg cs0.toArray, .agg cs1.toArray] w fun e w' => e = .returned (.bool r) ∧ Below w.heap.size w w' := by
  have el0 : cs0.length = 14 := k39.K_len hk0
  have el1 : cs1.length = 14 := k39.K_len hk1
  unfold laws_eqModel.g at H
  have HS : St (fun _ => True) w w [] [(fun W => k39.K W x0 cs0), (fun W => k39.K W x1 cs1)] [] := St.start (foot_cons (foot_K h39 hk0) (foot_cons (foot_K h39 hk1) foot_nil))
  refine calls_W Try.func18 rfl rfl (Nat.le_of_ble_eq_true rfl) (fun R_ hR_ => ?_)
  refine WC.seq (fun K1 hK1 => ?_)
  refine WC.region ?_
  refine WL.box HS rfl rfl (by decide) rfl rfl rfl (fun b2 w3 hb2 HS => ?_)
  refine WL.box HS rfl rfl (by decide) rfl rfl rfl (fun b4 w5 hb4 HS => ?_)
  refine as_ ?_
  refine WL.done ?_
  refine WQ.via (fun _ _ h_ => h_) hK1 ?_
  refine WC.seq (fun K6 hK6 => ?_)
  refine WC.seq (fun K7 hK7 => ?_)
  refine WC.region ?_
  refine v_ (Run.fieldAddr rfl rfl Try.underlying39 rfl (by kernel_rfl) rfl) ?_
  refine v_ (Run.load rfl rfl Try.underlying3 rfl (box_cell (HS.mu 1 rfl) (at39_0 (AtK.whole (HS.getO 0 rfl))).int)) ?_
  refine v_ (Run.fieldAddr rfl rfl Try.underlying39 rfl (by kernel_rfl) rfl) ?_
  refine v_ (Run.load rfl rfl Try.underlying3 rfl (box_cell (HS.mu 0 rfl) (at39_0 (AtK.whole (HS.getO 1 rfl))).int)) ?_
  refine v_ (Run.bin rfl rfl rfl bin_neq) ?_
  refine WL.done ?_
  refine WQ.via (fun _ _ h_ => h_) hK7 ?_
  by_cases c8 : x0.f0 = x1.f0
  · rw [if_pos c8] at H
    refine WC.no rfl (bne_eq_false_iff_eq.mpr c8) ?_
    refine WC.skip ?_
    refine WQ.via (fun _ _ h_ => h_) hK6 ?_
    refine WC.seq (fun K9 hK9 => ?_)
    refine WC.seq (fun K10 hK10 => ?_)
    refine WC.region ?_
    refine v_ (Run.fieldAddr rfl rfl Try.underlying39 rfl (by kernel_rfl) rfl) ?_
    refine v_ (Run.load rfl rfl Try.underlying3 rfl (box_cell (HS.mu 1 rfl) (at39_1 (AtK.whole (HS.getO 0 rfl))).int)) ?_
    refine v_ (Run.fieldAddr rfl rfl Try.underlying39 rfl (by kernel_rfl) rfl) ?_
    refine v_ (Run.load rfl rfl Try.underlying3 rfl (box_cell (HS.mu 0 rfl) (at39_1 (AtK.whole (HS.getO 1 rfl))).int)) ?_
    refine v_ (Run.bin rfl rfl rfl bin_neq) ?_
    refine WL.done ?_
    refine WQ.via (fun _ _ h_ => h_) hK10 ?_
    by_cases c11 : x0.f1 = x1.f1
    · rw [if_pos c11] at H
      refine WC.no rfl (bne_eq_false_iff_eq.mpr c11) ?_
      refine WC.skip ?_
      refine WQ.via (fun _ _ h_ => h_) hK9 ?_
      refine WC.seq (fun K12 hK12 => ?_)
      refine WC.seq (fun K13 hK13 => ?_)
      refine WC.region ?_
      refine v_ (Run.fieldAddr rfl rfl Try.underlying39 rfl (by kernel_rfl) rfl) ?_
      refine v_ (Run.load rfl rfl Try.underlying3 rfl (box_cell (HS.mu 1 rfl) (at39_2 (AtK.whole (HS.getO 0 rfl))).int)) ?_
      refine v_ (Run.fieldAddr rfl rfl Try.underlying39 rfl (by kernel_rfl) rfl) ?_
      refine v_ (Run.load rfl rfl Try.underlying3 rfl (box_cell (HS.mu 0 rfl) (at39_2 (AtK.whole (HS.getO 1 rfl))).int)) ?_
      refine v_ (Run.bin rfl rfl rfl bin_neq) ?_
      refine WL.done ?_
      refine WQ.via (fun _ _ h_ => h_) hK13 ?_
      by_cases c14 : x0.f2 = x1.f2
      · rw [if_pos c14] at H
        refine WC.no rfl (bne_eq_false_iff_eq.mpr c14) ?_
        refine WC.skip ?_
        refine WQ.via (fun _ _ h_ => h_) hK12 ?_
        refine WC.seq (fun K15 hK15 => ?_)
        refine WC.seq (fun K16 hK16 => ?_)
        refine WC.region ?_
        refine v_ (Run.fieldAddr rfl rfl Try.underlying39 rfl (by kernel_rfl) rfl) ?_
        obtain ⟨A17, c18, hc19, le20⟩ := (at39_3 (AtK.whole (HS.getO 0 rfl))).slice
        replace HS := HS.deriveO (p := (fun W => k112.C W A17 x0.f3.length x0.f3)) (fun W_ hO_ hN_ => (at39_3 (AtK.whole (AllF.get 0 rfl hO_))).C hc19)
        refine v_ (Run.load rfl rfl Try.underlying34 rfl (box_cell (HS.mu 1 rfl) hc19)) ?_
        refine v_ (Run.fieldAddr rfl rfl Try.underlying39 rfl (by kernel_rfl) rfl) ?_
        obtain ⟨A21, c22, hc23, le24⟩ := (at39_3 (AtK.whole (HS.getO 2 rfl))).slice
        replace HS := HS.deriveO (p := (fun W => k112.C W A21 x1.f3.length x1.f3)) (fun W_ hO_ hN_ => (at39_3 (AtK.whole (AllF.get 2 rfl hO_))).C hc23)
        refine v_ (Run.load rfl rfl Try.underlying34 rfl (box_cell (HS.mu 0 rfl) hc23)) ?_
        obtain ⟨t25, ha26, H⟩ := bind_some H
        refine c_ Try.func55 (laws_eqMergeS.runs k A17 c18 x0.f3 A21 c22 x1.f3 t25 _ (HS.getO 1 rfl) le20 (HS.getO 0 rfl) le24 ha26) ?_
        rintro _ w27 ⟨rfl, hb⟩
        replace HS := HS.below hb
        refine ⟨_, rfl, ?_⟩
        clear hb
        refine v_ (Run.not rfl rfl) ?_
        refine WL.done ?_
        refine WQ.via (fun _ _ h_ => h_) hK16 ?_
        by_cases c28 : t25 = true
        · rw [if_pos c28] at H
          refine WC.no rfl (congrArg (fun b_ => !b_) c28) ?_
          refine WC.skip ?_
          refine WQ.via (fun _ _ h_ => h_) hK15 ?_
          refine WC.seq (fun K29 hK29 => ?_)
          refine WC.seq (fun K30 hK30 => ?_)
          refine WC.region ?_
          refine v_ (Run.fieldAddr rfl rfl Try.underlying39 rfl (by kernel_rfl) rfl) ?_
          obtain ⟨A31, c32, hc33, le34⟩ := (at39_4 (AtK.whole (HS.getO 2 rfl))).slice
          replace HS := HS.deriveO (p := (fun W => (Kd.slice 3 (Kd.int .i64)).C W A31 x0.f4.length x0.f4)) (fun W_ hO_ hN_ => (at39_4 (AtK.whole (AllF.get 2 rfl hO_))).C hc33)
          refine v_ (Run.load rfl rfl Try.underlying23 rfl (box_cell (HS.mu 1 rfl) hc33)) ?_
          refine v_ (Run.fieldAddr rfl rfl Try.underlying39 rfl (by kernel_rfl) rfl) ?_
          obtain ⟨A35, c36, hc37, le38⟩ := (at39_4 (AtK.whole (HS.getO 4 rfl))).slice
          replace HS := HS.deriveO (p := (fun W => (Kd.slice 3 (Kd.int .i64)).C W A35 x1.f4.length x1.f4)) (fun W_ hO_ hN_ => (at39_4 (AtK.whole (AllF.get 4 rfl hO_))).C hc37)
          refine v_ (Run.load rfl rfl Try.underlying23 rfl (box_cell (HS.mu 0 rfl) hc37)) ?_
          obtain ⟨t39, ha40, H⟩ := bind_some H
          refine c_ Try.func56 (laws_eqIntSS.calls k A31 c32 x0.f4 A35 c36 x1.f4 t39 _ (HS.getO 1 rfl) le34 (HS.getO 0 rfl) le38 ha40) ?_
          rintro _ w41 ⟨rfl, hb⟩
          have hb := hb.below
          replace HS := HS.below hb
          refine ⟨_, rfl, ?_⟩
          clear hb
          refine v_ (Run.not rfl rfl) ?_
          refine WL.done ?_
          refine WQ.via (fun _ _ h_ => h_) hK30 ?_
          by_cases c42 : t39 = true
          · rw [if_pos c42] at H
            refine WC.no rfl (congrArg (fun b_ => !b_) c42) ?_
            refine WC.skip ?_
            refine WQ.via (fun _ _ h_ => h_) hK29 ?_
            refine WC.seq (fun K43 hK43 => ?_)
            refine WC.seq (fun K44 hK44 => ?_)
            refine WC.region ?_
            refine v_ (Run.fieldAddr rfl rfl Try.underlying39 rfl (by kernel_rfl) rfl) ?_
            obtain ⟨A45, c46, hc47, le48⟩ := (at39_5 (AtK.whole (HS.getO 4 rfl))).slice
            replace HS := HS.deriveO (p := (fun W => k48.C W A45 x0.f5.length x0.f5)) (fun W_ hO_ hN_ => (at39_5 (AtK.whole (AllF.get 4 rfl hO_))).C hc47)
            refine v_ (Run.load rfl rfl Try.underlying35 rfl (box_cell (HS.mu 1 rfl) hc47)) ?_
            refine v_ (Run.fieldAddr rfl rfl Try.underlying39 rfl (by kernel_rfl) rfl) ?_
            obtain ⟨A49, c50, hc51, le52⟩ := (at39_5 (AtK.whole (HS.getO 6 rfl))).slice
            replace HS := HS.deriveO (p := (fun W => k48.C W A49 x1.f5.length x1.f5)) (fun W_ hO_ hN_ => (at39_5 (AtK.whole (AllF.get 6 rfl hO_))).C hc51)
            refine v_ (Run.load rfl rfl Try.underlying35 rfl (box_cell (HS.mu 0 rfl) hc51)) ?_
            obtain ⟨t53, ha54, H⟩ := bind_some H
            refine c_ Try.func57 (laws_eqLayerS.runs k A45 c46 x0.f5 A49 c50 x1.f5 t53 _ (HS.getO 1 rfl) le48 (HS.getO 0 rfl) le52 ha54) ?_
            rintro _ w55 ⟨rfl, hb⟩
            replace HS := HS.below hb
            refine ⟨_, rfl, ?_⟩
            clear hb
            refine v_ (Run.not rfl rfl) ?_
            refine WL.done ?_
            refine WQ.via (fun _ _ h_ => h_) hK44 ?_
            by_cases c56 : t53 = true
            · rw [if_pos c56] at H
              refine WC.no rfl (congrArg (fun b_ => !b_) c56) ?_
              refine WC.skip ?_
              refine WQ.via (fun _ _ h_ => h_) hK43 ?_
              refine WC.seq (fun K57 hK57 => ?_)
              refine WC.seq (fun K58 hK58 => ?_)
              refine WC.region ?_
              refine v_ (Run.fieldAddr rfl rfl Try.underlying39 rfl (by kernel_rfl) rfl) ?_
              obtain ⟨A59, c60, hc61, le62⟩ := (at39_6 (AtK.whole (HS.getO 6 rfl))).slice
              replace HS := HS.deriveO (p := (fun W => (Kd.int .i64).C W A59 x0.f6.length x0.f6)) (fun W_ hO_ hN_ => (at39_6 (AtK.whole (AllF.get 6 rfl hO_))).C hc61)
              refine v_ (Run.load rfl rfl Try.underlying25 rfl (box_cell (HS.mu 1 rfl) hc61)) ?_
              refine v_ (Run.fieldAddr rfl rfl Try.underlying39 rfl (by kernel_rfl) rfl) ?_
              obtain ⟨A63, c64, hc65, le66⟩ := (at39_6 (AtK.whole (HS.getO 8 rfl))).slice
              replace HS := HS.deriveO (p := (fun W => (Kd.int .i64).C W A63 x1.f6.length x1.f6)) (fun W_ hO_ hN_ => (at39_6 (AtK.whole (AllF.get 8 rfl hO_))).C hc65)
              refine v_ (Run.load rfl rfl Try.underlying25 rfl (box_cell (HS.mu 0 rfl) hc65)) ?_
              obtain ⟨t67, ha68, H⟩ := bind_some H
              refine c_ Try.func58 (laws_eqIntS.calls k A59 c60 x0.f6 A63 c64 x1.f6 t67 _ (HS.getO 1 rfl) le62 (HS.getO 0 rfl) le66 ha68) ?_
              rintro _ w69 ⟨rfl, hb⟩
              have hb := hb.below
              replace HS := HS.below hb
              refine ⟨_, rfl, ?_⟩
              clear hb
              refine v_ (Run.not rfl rfl) ?_
              refine WL.done ?_
              refine WQ.via (fun _ _ h_ => h_) hK58 ?_
              by_cases c70 : t67 = true
              · rw [if_pos c70] at H
                refine WC.no rfl (congrArg (fun b_ => !b_) c70) ?_
                refine WC.skip ?_
                refine WQ.via (fun _ _ h_ => h_) hK57 ?_
                refine WC.seq (fun K71 hK71 => ?_)
                refine WC.seq (fun K72 hK72 => ?_)
                refine WC.region ?_
                refine v_ (Run.fieldAddr rfl rfl Try.underlying39 rfl (by kernel_rfl) rfl) ?_
                obtain ⟨A73, c74, hc75, le76⟩ := (at39_8 (AtK.whole (HS.getO 8 rfl))).slice
                replace HS := HS.deriveO (p := (fun W => (Kd.slice 3 (Kd.int .i64)).C W A73 x0.f7.f1.length x0.f7.f1)) (fun W_ hO_ hN_ => (at39_8 (AtK.whole (AllF.get 8 rfl hO_))).C hc75)
                obtain ⟨A77, c78, hc79, le80⟩ := (at39_9 (AtK.whole (HS.getO 9 rfl))).slice
                replace HS := HS.deriveO (p := (fun W => (Kd.slice 3 (Kd.int .i64)).C W A77 x0.f7.f2.length x0.f7.f2)) (fun W_ hO_ hN_ => (at39_9 (AtK.whole (AllF.get 9 rfl hO_))).C hc79)
                refine v_ (Run.loadS (cs := [.int .i64 x0.f7.f0, .slice A73 x0.f7.f1.length c74, .slice A77 x0.f7.f2.length c78, .int .i64 x0.f7.f3, .int .i64 x0.f7.f4]) rfl rfl Try.underlying36 rfl (by kernel_rfl) (box_part (HS.mu 1 rfl) (part_cons (at39_7 (AtK.whole (HS.getO 10 rfl))).int (part_cons hc75 (part_cons hc79 (part_cons (at39_10 (AtK.whole (HS.getO 10 rfl))).int (part_cons (at39_11 (AtK.whole (HS.getO 10 rfl))).int part_nil))))))) ?_
                refine v_ (Run.fieldAddr rfl rfl Try.underlying39 rfl (by kernel_rfl) rfl) ?_
                obtain ⟨A81, c82, hc83, le84⟩ := (at39_8 (AtK.whole (HS.getO 11 rfl))).slice
                replace HS := HS.deriveO (p := (fun W => (Kd.slice 3 (Kd.int .i64)).C W A81 x1.f7.f1.length x1.f7.f1)) (fun W_ hO_ hN_ => (at39_8 (AtK.whole (AllF.get 11 rfl hO_))).C hc83)
                obtain ⟨A85, c86, hc87, le88⟩ := (at39_9 (AtK.whole (HS.getO 12 rfl))).slice
                replace HS := HS.deriveO (p := (fun W => (Kd.slice 3 (Kd.int .i64)).C W A85 x1.f7.f2.length x1.f7.f2)) (fun W_ hO_ hN_ => (at39_9 (AtK.whole (AllF.get 12 rfl hO_))).C hc87)
                refine v_ (Run.loadS (cs := [.int .i64 x1.f7.f0, .slice A81 x1.f7.f1.length c82, .slice A85 x1.f7.f2.length c86, .int .i64 x1.f7.f3, .int .i64 x1.f7.f4]) rfl rfl Try.underlying36 rfl (by kernel_rfl) (box_part (HS.mu 0 rfl) (part_cons (at39_7 (AtK.whole (HS.getO 13 rfl))).int (part_cons hc83 (part_cons hc87 (part_cons (at39_10 (AtK.whole (HS.getO 13 rfl))).int (part_cons (at39_11 (AtK.whole (HS.getO 13 rfl))).int part_nil))))))) ?_
                obtain ⟨t89, ha90, H⟩ := bind_some H
                refine c_ Try.func59 (laws_eqMatrix.runs k x0.f7 A73 c74 A77 c78 x1.f7 A81 c82 A85 c86 t89 _ (HS.getO 3 rfl) le76 (HS.getO 2 rfl) le80 (HS.getO 1 rfl) le84 (HS.getO 0 rfl) le88 ha90) ?_
                rintro _ w91 ⟨rfl, hb⟩
                replace HS := HS.below hb
                refine ⟨_, rfl, ?_⟩
                clear hb
                refine v_ (Run.not rfl rfl) ?_
                refine WL.done ?_
                refine WQ.via (fun _ _ h_ => h_) hK72 ?_
                by_cases c92 : t89 = true
                · rw [if_pos c92] at H
                  refine WC.no rfl (congrArg (fun b_ => !b_) c92) ?_
                  refine WC.skip ?_
                  refine WQ.via (fun _ _ h_ => h_) hK71 ?_
                  refine WC.seq (fun K93 hK93 => ?_)
                  refine WC.seq (fun K94 hK94 => ?_)
                  refine WC.region ?_
                  refine v_ (Run.fieldAddr rfl rfl Try.underlying39 rfl (by kernel_rfl) rfl) ?_
                  obtain ⟨A95, c96, hc97, le98⟩ := (at39_12 (AtK.whole (HS.getO 12 rfl))).slice
                  replace HS := HS.deriveO (p := (fun W => (Kd.slice 3 (Kd.int .i64)).C W A95 x0.f8.f0.length x0.f8.f0)) (fun W_ hO_ hN_ => (at39_12 (AtK.whole (AllF.get 12 rfl hO_))).C hc97)
                  obtain ⟨A99, c100, hc101, le102⟩ := (at39_13 (AtK.whole (HS.getO 13 rfl))).slice
                  replace HS := HS.deriveO (p := (fun W => (Kd.slice 3 (Kd.int .i64)).C W A99 x0.f8.f1.length x0.f8.f1)) (fun W_ hO_ hN_ => (at39_13 (AtK.whole (AllF.get 13 rfl hO_))).C hc101)
                  refine v_ (Run.loadS (cs := [.slice A95 x0.f8.f0.length c96, .slice A99 x0.f8.f1.length c100]) rfl rfl Try.underlying37 rfl (by kernel_rfl) (box_part (HS.mu 1 rfl) (part_cons hc97 (part_cons hc101 part_nil)))) ?_
                  refine v_ (Run.fieldAddr rfl rfl Try.underlying39 rfl (by kernel_rfl) rfl) ?_
                  obtain ⟨A103, c104, hc105, le106⟩ := (at39_12 (AtK.whole (HS.getO 15 rfl))).slice
                  replace HS := HS.deriveO (p := (fun W => (Kd.slice 3 (Kd.int .i64)).C W A103 x1.f8.f0.length x1.f8.f0)) (fun W_ hO_ hN_ => (at39_12 (AtK.whole (AllF.get 15 rfl hO_))).C hc105)
                  obtain ⟨A107, c108, hc109, le110⟩ := (at39_13 (AtK.whole (HS.getO 16 rfl))).slice
                  replace HS := HS.deriveO (p := (fun W => (Kd.slice 3 (Kd.int .i64)).C W A107 x1.f8.f1.length x1.f8.f1)) (fun W_ hO_ hN_ => (at39_13 (AtK.whole (AllF.get 16 rfl hO_))).C hc109)
                  refine v_ (Run.loadS (cs := [.slice A103 x1.f8.f0.length c104, .slice A107 x1.f8.f1.length c108]) rfl rfl Try.underlying37 rfl (by kernel_rfl) (box_part (HS.mu 0 rfl) (part_cons hc105 (part_cons hc109 part_nil)))) ?_
                  obtain ⟨t111, ha112, H⟩ := bind_some H
                  refine c_ Try.func60 (laws_eqTurns.runs k x0.f8 A95 c96 A99 c100 x1.f8 A103 c104 A107 c108 t111 _ (HS.getO 3 rfl) le98 (HS.getO 2 rfl) le102 (HS.getO 1 rfl) le106 (HS.getO 0 rfl) le110 ha112) ?_
                  rintro _ w113 ⟨rfl, hb⟩
                  replace HS := HS.below hb
                  refine ⟨_, rfl, ?_⟩
                  clear hb
                  refine v_ (Run.not rfl rfl) ?_
                  refine WL.done ?_
                  refine WQ.via (fun _ _ h_ => h_) hK94 ?_
                  by_cases c114 : t111 = true
                  · rw [if_pos c114] at H
                    refine WC.no rfl (congrArg (fun b_ => !b_) c114) ?_
                    refine WC.skip ?_
                    refine WQ.via (fun _ _ h_ => h_) hK93 ?_
                    refine WC.seq (fun K115 hK115 => ?_)
                    refine WC.region ?_
                    refine as_ ?_
                    refine WL.done ?_
                    refine WQ.via (fun _ _ h_ => h_) hK115 ?_
                    refine WC.ret ?_
                    obtain rfl := Option.some.inj H
                    refine WQ.fin (e' := .ret) (fn := Try.f18) (fun _ _ h_ => h_) (WQ.ret1 rfl rfl ?_)
                    exact hR_ _ _ ⟨rfl, HS.b⟩
                  · rw [if_neg c114] at H
                    refine WC.yes rfl (congrArg (fun b_ => !b_) (Bool.eq_false_iff.mpr c114)) ?_
                    refine WC.seq (fun K116 hK116 => ?_)
                    refine WC.region ?_
                    refine as_ ?_
                    refine WL.done ?_
                    refine WQ.via (fun _ _ h_ => h_) hK116 ?_
                    refine WC.ret ?_
                    obtain rfl := Option.some.inj H
                    refine WQ.fin (e' := .ret) (fn := Try.f18) (fun _ _ h_ => h_) (WQ.ret1 rfl rfl ?_)
                    exact hR_ _ _ ⟨rfl, HS.b⟩
                · rw [if_neg c92] at H
                  refine WC.yes rfl (congrArg (fun b_ => !b_) (Bool.eq_false_iff.mpr c92)) ?_
                  refine WC.seq (fun K117 hK117 => ?_)
                  refine WC.region ?_
                  refine as_ ?_
                  refine WL.done ?_
                  refine WQ.via (fun _ _ h_ => h_) hK117 ?_
                  refine WC.ret ?_
                  obtain rfl := Option.some.inj H
                  refine WQ.fin (e' := .ret) (fn := Try.f18) (fun _ _ h_ => h_) (WQ.ret1 rfl rfl ?_)
                  exact hR_ _ _ ⟨rfl, HS.b⟩
              · rw [if_neg c70] at H
                refine WC.yes rfl (congrArg (fun b_ => !b_) (Bool.eq_false_iff.mpr c70)) ?_
                refine WC.seq (fun K118 hK118 => ?_)
                refine WC.region ?_
                refine as_ ?_
                refine WL.done ?_
                refine WQ.via (fun _ _ h_ => h_) hK118 ?_
                refine WC.ret ?_
                obtain rfl := Option.some.inj H
                refine WQ.fin (e' := .ret) (fn := Try.f18) (fun _ _ h_ => h_) (WQ.ret1 rfl rfl ?_)
                exact hR_ _ _ ⟨rfl, HS.b⟩
            · rw [if_neg c56] at H
              refine WC.yes rfl (congrArg (fun b_ => !b_) (Bool.eq_false_iff.mpr c56)) ?_
              refine WC.seq (fun K119 hK119 => ?_)
              refine WC.region ?_
              refine as_ ?_
              refine WL.done ?_
              refine WQ.via (fun _ _ h_ => h_) hK119 ?_
              refine WC.ret ?_
              obtain rfl := Option.some.inj H
              refine WQ.fin (e' := .ret) (fn := Try.f18) (fun _ _ h_ => h_) (WQ.ret1 rfl rfl ?_)
              exact hR_ _ _ ⟨rfl, HS.b⟩
          · rw [if_neg c42] at H
            refine WC.yes rfl (congrArg (fun b_ => !b_) (Bool.eq_false_iff.mpr c42)) ?_
            refine WC.seq (fun K120 hK120 => ?_)
            refine WC.region ?_
            refine as_ ?_
            refine WL.done ?_
            refine WQ.via (fun _ _ h_ => h_) hK120 ?_
            refine WC.ret ?_
            obtain rfl := Option.some.inj H
            refine WQ.fin (e' := .ret) (fn := Try.f18) (fun _ _ h_ => h_) (WQ.ret1 rfl rfl ?_)
            exact hR_ _ _ ⟨rfl, HS.b⟩
        · rw [if_neg c28] at H
          refine WC.yes rfl (congrArg (fun b_ => !b_) (Bool.eq_false_iff.mpr c28)) ?_
          refine WC.seq (fun K121 hK121 => ?_)
          refine WC.region ?_
          refine as_ ?_
          refine WL.done ?_
          refine WQ.via (fun _ _ h_ => h_) hK121 ?_
          refine WC.ret ?_
          obtain rfl := Option.some.inj H
          refine WQ.fin (e' := .ret) (fn := Try.f18) (fun _ _ h_ => h_) (WQ.ret1 rfl rfl ?_)
          exact hR_ _ _ ⟨rfl, HS.b⟩
      · rw [if_neg c14] at H
        refine WC.yes rfl (bne_iff_ne.mpr c14) ?_
        refine WC.seq (fun K122 hK122 => ?_)
        refine WC.region ?_
        refine as_ ?_
        refine WL.done ?_
        refine WQ.via (fun _ _ h_ => h_) hK122 ?_
        refine WC.ret ?_
        obtain rfl := Option.some.inj H
        refine WQ.fin (e' := .ret) (fn := Try.f18) (fun _ _ h_ => h_) (WQ.ret1 rfl rfl ?_)
        exact hR_ _ _ ⟨rfl, HS.b⟩
    · rw [if_neg c11] at H
      refine WC.yes rfl (bne_iff_ne.mpr c11) ?_
      refine WC.seq (fun K123 hK123 => ?_)
      refine WC.region ?_
      refine as_ ?_
      refine WL.done ?_
      refine WQ.via (fun _ _ h_ => h_) hK123 ?_
      refine WC.ret ?_
      obtain rfl := Option.some.inj H
      refine WQ.fin (e' := .ret) (fn := Try.f18) (fun _ _ h_ => h_) (WQ.ret1 rfl rfl ?_)
      exact hR_ _ _ ⟨rfl, HS.b⟩
  · rw [if_neg c8] at H
    refine WC.yes rfl (bne_iff_ne.mpr c8) ?_
    refine WC.seq (fun K124 hK124 => ?_)
    refine WC.region ?_
    refine as_ ?_
    refine WL.done ?_
    refine WQ.via (fun _ _ h_ => h_) hK124 ?_
    refine WC.ret ?_
    obtain rfl := Option.some.inj H
    refine WQ.fin (e' := .ret) (fn := Try.f18) (fun _ _ h_ => h_) (WQ.ret1 rfl rfl ?_)
    exact hR_ _ _ ⟨rfl, HS.b⟩
def laws_FnExactModelOk.g (k : Nat) (x0 : S31) : Option Bool := ((laws_szModel.g k x0 1048576).bind fun t6 => (if t6 < 0 then (some true) else ((laws_toModel.g k x0).bind fun t14 => ((spec_ModelOk.g k t14).bind fun t20 => ((laws_toModel.g k x0).bind fun t24 => ((impl_ModelOk.g k t24).bind fun t34 => (if t34 = t20 then ((laws_toModel.g k x0).bind fun t43 => ((laws_eqModel.g k t24 t43).bind fun t49 => (if t49 = true then (some true) else (some false)))) else (some false))))))))
set_option maxHeartbeats 4000000 in
set_option maxRecDepth 20000 in
theorem laws_FnExactModelOk.runs (k : Nat) (cs0 : List Value) (x0 : S31) (r : Bool) (w : World) (hk0 : k31.K w x0 cs0) (H : laws_FnExactModelOk.g k x0 = some r) :
    Calls Try.prog 5 #[.agg cs0.toArray] w fun e w' => e = .returned (.bool r) ∧ Below w.heap.size w w' := by
  have el0 : cs0.length = 14 := k31.K_len hk0
  unfold laws_FnExactModelOk.g at H
  have HS : St (fun _ => True) w w [] [(fun W => k31.K W x0 cs0)] [] := St.start (foot_cons (foot_K h31 hk0) foot_nil)
  refine calls_W Try.func5 rfl rfl (Nat.le_of_ble_eq_true rfl) (fun R_ hR_ => ?_)
  refine WC.seq (fun K1 hK1 => ?_)
  refine WC.region ?_
  refine WL.box HS rfl rfl (by decide) rfl rfl rfl (fun b2 w3 hb2 HS => ?_)
  refine as_ ?_
  refine WL.done ?_
  refine WQ.via (fun _ _ h_ => h_) hK1 ?_
  refine WC.seq (fun K4 hK4 => ?_)
  refine WC.region ?_
  refine as_ ?_
  refine WL.done ?_
  refine WQ.via (fun _ _ h_ => h_) hK4 ?_
  refine WC.seq (fun K5 hK5 => ?_)
  refine WC.region ?_
  refine v_ (Run.loadS (cs := cs0) rfl rfl Try.underlying31 rfl (by rw [el0]; kernel_rfl) (box_part (HS.mu 0 rfl) part_all)) ?_
  refine mv_ ?_
  obtain ⟨t6, ha7, H⟩ := bind_some H
  refine c_ Try.func14 (laws_szModel.runs k cs0 x0 1048576 t6 _ (HS.getO 0 rfl) ha7) ?_
  rintro _ w8 ⟨rfl, hb⟩
  replace HS := HS.below hb
  refine ⟨_, rfl, ?_⟩
  clear hb
  refine as_ ?_
  refine WL.done ?_
  refine WQ.via (fun _ _ h_ => h_) hK5 ?_
  refine WC.seq (fun K9 hK9 => ?_)
  refine WC.seq (fun K10 hK10 => ?_)
  refine WC.region ?_
  refine mv_ ?_
  refine v_ (Run.bin rfl rfl rfl bin_lss) ?_
  refine WL.done ?_
  refine WQ.via (fun _ _ h_ => h_) hK10 ?_
  by_cases c11 : t6 < 0
  · rw [if_pos c11] at H
    refine WC.yes rfl (decide_eq_true c11) ?_
    refine WC.seq (fun K12 hK12 => ?_)
    refine WC.region ?_
    refine as_ ?_
    refine WL.done ?_
    refine WQ.via (fun _ _ h_ => h_) hK12 ?_
    refine WC.ret ?_
    obtain rfl := Option.some.inj H
    refine WQ.fin (e' := .ret) (fn := Try.f5) (fun _ _ h_ => h_) (WQ.ret1 rfl rfl ?_)
    exact hR_ _ _ ⟨rfl, HS.b⟩
  · rw [if_neg c11] at H
    refine WC.no rfl (decide_eq_false c11) ?_
    refine WC.skip ?_
    refine WQ.via (fun _ _ h_ => h_) hK9 ?_
    refine WC.seq (fun K13 hK13 => ?_)
    refine WC.region ?_
    refine v_ (Run.loadS (cs := cs0) rfl rfl Try.underlying31 rfl (by rw [el0]; kernel_rfl) (box_part (HS.mu 0 rfl) part_all)) ?_
    obtain ⟨t14, ha15, H⟩ := bind_some H
    refine c_ Try.func16 (laws_toModel.runs k cs0 x0 t14 _ (HS.getO 0 rfl) ha15) ?_
    rintro _ w16 ⟨cs17, rfl, hf18, hb⟩
    replace HS := HS.newNs hb (ps := [(fun W => k39.K W t14 cs17)]) (foot_cons hf18 foot_nil)
    have el19 : cs17.length = 14 := k39.K_len (Foot.now hf18)
    refine ⟨_, rfl, ?_⟩
    clear hb
    obtain ⟨t20, ha21, H⟩ := bind_some H
    refine c_ Try.func24 (spec_ModelOk.runs k cs17 t14 t20 _ (HS.getN 0 rfl) ha21) ?_
    rintro _ w22 ⟨rfl, hb⟩
    replace HS := HS.below hb
    refine ⟨_, rfl, ?_⟩
    clear hb
    refine as_ ?_
    refine WL.done ?_
    refine WQ.via (fun _ _ h_ => h_) hK13 ?_
    refine WC.seq (fun K23 hK23 => ?_)
    refine WC.region ?_
    refine v_ (Run.loadS (cs := cs0) rfl rfl Try.underlying31 rfl (by rw [el0]; kernel_rfl) (box_part (HS.mu 0 rfl) part_all)) ?_
    obtain ⟨t24, ha25, H⟩ := bind_some H
    refine c_ Try.func16 (laws_toModel.runs k cs0 x0 t24 _ (HS.getO 0 rfl) ha25) ?_
    rintro _ w26 ⟨cs27, rfl, hf28, hb⟩
    replace HS := HS.newNs hb (ps := [(fun W => k39.K W t24 cs27)]) (foot_cons hf28 foot_nil)
    have el29 : cs27.length = 14 := k39.K_len (Foot.now hf28)
    refine ⟨_, rfl, ?_⟩
    clear hb
    refine WL.alloc HS (v := .agg #[.int .i64 0, .int .i64 0, .int .i64 0, .slice none 0 0, .slice none 0 0, .slice none 0 0, .slice none 0 0, .int .i64 0, .slice none 0 0, .slice none 0 0, .int .i64 0, .int .i64 0, .slice none 0 0, .slice none 0 0]) (cs := #[.int .i64 0, .int .i64 0, .int .i64 0, .slice none 0 0, .slice none 0 0, .slice none 0 0, .slice none 0 0, .int .i64 0, .slice none 0 0, .slice none 0 0, .int .i64 0, .int .i64 0, .slice none 0 0, .slice none 0 0]) rfl rfl (by decide) rfl (by kernel_rfl) rfl (fun b30 w31 hb30 HS => ?_)
    refine WL.storeS HS 0 rfl rfl rfl rfl rfl rfl (Kd.K_one _ (HS.getN 0 rfl)) (by rw [el29]; kernel_rfl) (by rw [el29]; decide) (splice_all (by rw [el29]; rfl)) (fun w32 HS => ?_)
    refine WL.done ?_
    refine WQ.via (fun _ _ h_ => h_) hK23 ?_
    refine WC.seq (fun K33 hK33 => ?_)
    refine WC.region ?_
    refine v_ (Run.loadS (cs := cs27) rfl rfl Try.underlying39 rfl (by rw [el29]; kernel_rfl) (box_part (HS.mu 0 rfl) part_all)) ?_
    obtain ⟨t34, ha35, H⟩ := bind_some H
    refine c_ Try.func25 (impl_ModelOk.runs k cs27 t24 t34 _ (HS.getN 0 rfl) ha35) ?_
    rintro _ w36 ⟨rfl, hb⟩
    replace HS := HS.below hb
    refine ⟨_, rfl, ?_⟩
    clear hb
    refine as_ ?_
    refine WL.done ?_
    refine WQ.via (fun _ _ h_ => h_) hK33 ?_
    refine WC.seq (fun K37 hK37 => ?_)
    refine WC.seq (fun K38 hK38 => ?_)
    refine WC.region ?_
    refine mv_ ?_
    refine mv_ ?_
    refine v_ (Run.binB rfl rfl rfl (bin_neqB Try.underlying4)) ?_
    refine WL.done ?_
    refine WQ.via (fun _ _ h_ => h_) hK38 ?_
    by_cases c39 : t34 = t20
    · rw [if_pos c39] at H
      refine WC.no rfl (bne_eq_false_iff_eq.mpr c39) ?_
      refine WC.skip ?_
      refine WQ.via (fun _ _ h_ => h_) hK37 ?_
      refine WC.seq (fun K40 hK40 => ?_)
      refine WC.seq (fun K41 hK41 => ?_)
      refine WC.drawS HS [] rfl rfl (fun w42 HS => ?_)
      have HB := Below.refl w42.heap.size w42
      have HSW := HS
      refine dt_ 0 (Below.refl _ _) (fun w_ hw_ => Run.loadS (cs := cs27) rfl rfl Try.underlying39 rfl (by rw [el29]; kernel_rfl) (box_part ((HS.below hw_).mu 0 rfl) part_all)) ?_
      refine dt_ 1 (Below.refl _ _) (fun w_ hw_ => Run.loadS (cs := cs0) rfl rfl Try.underlying31 rfl (by rw [el0]; kernel_rfl) (box_part ((HS.below hw_).mu 1 rfl) part_all)) ?_
      obtain ⟨t43, ha44, H⟩ := bind_some H
      refine dc_ 2 (w_none rfl) Try.func16 (laws_toModel.runs k cs0 x0 t43 _ (HS.getO 0 rfl) ha44) ?_
      rintro _ w45 ⟨cs46, rfl, hf47, hb⟩
      replace HB := HB.trans (hb.mono HB.size)
      replace HS := HS.newNs hb (ps := [(fun W => k39.K W t43 cs46)]) (foot_cons hf47 foot_nil)
      have el48 : cs46.length = 14 := k39.K_len (Foot.now hf47)
      refine ⟨HB, _, rfl, ?_⟩
      clear hb
      obtain ⟨t49, ha50, H⟩ := bind_some H
      refine dc_ 3 (w_none rfl) Try.func18 (laws_eqModel.runs k cs27 t24 cs46 t43 t49 _ (HS.getN 1 rfl) (HS.getN 0 rfl) ha50) ?_
      rintro _ w51 ⟨rfl, hb⟩
      replace HB := HB.trans (hb.mono HB.size)
      replace HS := HS.below hb
      refine ⟨HB, _, rfl, ?_⟩
      clear hb
      refine dp_ 4 (fun _ => Run.not rfl rfl) ?_
      refine WD.done (by kernel_rfl) ?_
      clear HB HSW
      refine WQ.via (fun _ _ h_ => h_) hK41 ?_
      by_cases c52 : t49 = true
      · rw [if_pos c52] at H
        refine WC.no rfl (congrArg (fun b_ => !b_) c52) ?_
        refine WC.skip ?_
        refine WQ.via (fun _ _ h_ => h_) hK40 ?_
        refine WC.seq (fun K53 hK53 => ?_)
        refine WC.region ?_
        refine as_ ?_
        refine WL.done ?_
        refine WQ.via (fun _ _ h_ => h_) hK53 ?_
        refine WC.ret ?_
        obtain rfl := Option.some.inj H
        refine WQ.fin (e' := .ret) (fn := Try.f5) (fun _ _ h_ => h_) (WQ.ret1 rfl rfl ?_)
        exact hR_ _ _ ⟨rfl, HS.b⟩
      · rw [if_neg c52] at H
        refine WC.yes rfl (congrArg (fun b_ => !b_) (Bool.eq_false_iff.mpr c52)) ?_
        refine WC.seq (fun K54 hK54 => ?_)
        refine WC.region ?_
        refine as_ ?_
        refine WL.done ?_
        refine WQ.via (fun _ _ h_ => h_) hK54 ?_
        refine WC.ret ?_
        obtain rfl := Option.some.inj H
        refine WQ.fin (e' := .ret) (fn := Try.f5) (fun _ _ h_ => h_) (WQ.ret1 rfl rfl ?_)
        exact hR_ _ _ ⟨rfl, HS.b⟩
    · rw [if_neg c39] at H
      refine WC.yes rfl (bne_iff_ne.mpr c39) ?_
      refine WC.seq (fun K55 hK55 => ?_)
      refine WC.region ?_
      refine as_ ?_
      refine WL.done ?_
      refine WQ.via (fun _ _ h_ => h_) hK55 ?_
      refine WC.ret ?_
      obtain rfl := Option.some.inj H
      refine WQ.fin (e' := .ret) (fn := Try.f5) (fun _ _ h_ => h_) (WQ.ret1 rfl rfl ?_)
      exact hR_ _ _ ⟨rfl, HS.b⟩
def okT3 (x : Int) : Prop := (Lit.int .i64 x).wf = true
theorem opensT3 : XOpen.Opens Try.prog 3 (Kd.int .i64) okT3 := XOpen.opens_int Try.underlying3
def okT129 (x : S129) : Prop := okT3 x.f0 ∧ okT3 x.f1
theorem opensT129 : XOpen.Opens Try.prog 129 k129 okT129 := by
  intro H enc w base held fuel cs x h
  obtain ⟨xs, n, _, _, hl, hlen, hf⟩ := DataW.trod_struct Try.underlying129 h
  obtain ⟨a0, p0⟩ := XOpen.part_field hlen hf 0 rfl (by kernel_rfl) opensT3
  obtain ⟨a1, p1⟩ := XOpen.part_field hlen hf 1 rfl (by kernel_rfl) opensT3
  obtain ⟨hk, hg⟩ := XOpen.part_all (XOpen.part_pair p0 p1 rfl) (hl.trans (by kernel_rfl))
  exact ⟨⟨a0, a1⟩, hk, hg⟩
def okT22 (xs : List S129) : Prop := xs.length ≤ 9223372036854775807 ∧ ∀ x ∈ xs, okT129 x
theorem opensT22 : XOpen.Opens Try.prog 22 (Kd.slice 129 k129) okT22 := XOpen.opens_slice Try.underlying22 (by kernel_rfl) opensT129
def okT25 (xs : List Int) : Prop := xs.length ≤ 9223372036854775807 ∧ ∀ x ∈ xs, okT3 x
theorem opensT25 : XOpen.Opens Try.prog 25 (Kd.slice 3 (Kd.int .i64)) okT25 := XOpen.opens_slice Try.underlying25 (by kernel_rfl) opensT3
def okT23 (xs : List (List Int)) : Prop := xs.length ≤ 9223372036854775807 ∧ ∀ x ∈ xs, okT25 x
theorem opensT23 : XOpen.Opens Try.prog 23 (Kd.slice 25 (Kd.slice 3 (Kd.int .i64))) okT23 := XOpen.opens_slice Try.underlying23 (by kernel_rfl) opensT25
def okT27 (x : S27) : Prop := okT3 x.f0 ∧ okT23 x.f1 ∧ okT23 x.f2 ∧ okT3 x.f3 ∧ okT3 x.f4
theorem opensT27 : XOpen.Opens Try.prog 27 k27 okT27 := by
  intro H enc w base held fuel cs x h
  obtain ⟨xs, n, _, _, hl, hlen, hf⟩ := DataW.trod_struct Try.underlying27 h
  obtain ⟨a0, p0⟩ := XOpen.part_field hlen hf 0 rfl (by kernel_rfl) opensT3
  obtain ⟨a1, p1⟩ := XOpen.part_field hlen hf 1 rfl (by kernel_rfl) opensT23
  obtain ⟨a2, p2⟩ := XOpen.part_field hlen hf 2 rfl (by kernel_rfl) opensT23
  obtain ⟨a3, p3⟩ := XOpen.part_field hlen hf 3 rfl (by kernel_rfl) opensT3
  obtain ⟨a4, p4⟩ := XOpen.part_field hlen hf 4 rfl (by kernel_rfl) opensT3
  obtain ⟨hk, hg⟩ := XOpen.part_all (XOpen.part_pair p0 (XOpen.part_pair p1 (XOpen.part_pair p2 (XOpen.part_pair p3 p4 rfl) rfl) rfl) rfl) (hl.trans (by kernel_rfl))
  exact ⟨⟨a0, a1, a2, a3, a4⟩, hk, hg⟩
def okT44 (x : S44) : Prop := okT25 x.f0 ∧ okT27 x.f1 ∧ okT27 x.f2 ∧ okT27 x.f3 ∧ okT27 x.f4 ∧ okT25 x.f5 ∧ okT27 x.f6 ∧ okT27 x.f7
theorem opensT44 : XOpen.Opens Try.prog 44 k44 okT44 := by
  intro H enc w base held fuel cs x h
  obtain ⟨xs, n, _, _, hl, hlen, hf⟩ := DataW.trod_struct Try.underlying44 h
  obtain ⟨a0, p0⟩ := XOpen.part_field hlen hf 0 rfl (by kernel_rfl) opensT25
  obtain ⟨a1, p1⟩ := XOpen.part_field hlen hf 1 rfl (by kernel_rfl) opensT27
  obtain ⟨a2, p2⟩ := XOpen.part_field hlen hf 2 rfl (by kernel_rfl) opensT27
  obtain ⟨a3, p3⟩ := XOpen.part_field hlen hf 3 rfl (by kernel_rfl) opensT27
  obtain ⟨a4, p4⟩ := XOpen.part_field hlen hf 4 rfl (by kernel_rfl) opensT27
  obtain ⟨a5, p5⟩ := XOpen.part_field hlen hf 5 rfl (by kernel_rfl) opensT25
  obtain ⟨a6, p6⟩ := XOpen.part_field hlen hf 6 rfl (by kernel_rfl) opensT27
  obtain ⟨a7, p7⟩ := XOpen.part_field hlen hf 7 rfl (by kernel_rfl) opensT27
  obtain ⟨hk, hg⟩ := XOpen.part_all (XOpen.part_pair p0 (XOpen.part_pair p1 (XOpen.part_pair p2 (XOpen.part_pair p3 (XOpen.part_pair p4 (XOpen.part_pair p5 (XOpen.part_pair p6 p7 rfl) rfl) rfl) rfl) rfl) rfl) rfl) (hl.trans (by kernel_rfl))
  exact ⟨⟨a0, a1, a2, a3, a4, a5, a6, a7⟩, hk, hg⟩
def okT24 (xs : List S44) : Prop := xs.length ≤ 9223372036854775807 ∧ ∀ x ∈ xs, okT44 x
theorem opensT24 : XOpen.Opens Try.prog 24 (Kd.slice 44 k44) okT24 := XOpen.opens_slice Try.underlying24 (by kernel_rfl) opensT44
def okT29 (x : S29) : Prop := okT23 x.f0 ∧ okT23 x.f1
theorem opensT29 : XOpen.Opens Try.prog 29 k29 okT29 := by
  intro H enc w base held fuel cs x h
  obtain ⟨xs, n, _, _, hl, hlen, hf⟩ := DataW.trod_struct Try.underlying29 h
  obtain ⟨a0, p0⟩ := XOpen.part_field hlen hf 0 rfl (by kernel_rfl) opensT23
  obtain ⟨a1, p1⟩ := XOpen.part_field hlen hf 1 rfl (by kernel_rfl) opensT23
  obtain ⟨hk, hg⟩ := XOpen.part_all (XOpen.part_pair p0 p1 rfl) (hl.trans (by kernel_rfl))
  exact ⟨⟨a0, a1⟩, hk, hg⟩
def okT31 (x : S31) : Prop := okT3 x.f0 ∧ okT3 x.f1 ∧ okT3 x.f2 ∧ okT22 x.f3 ∧ okT23 x.f4 ∧ okT24 x.f5 ∧ okT25 x.f6 ∧ okT27 x.f7 ∧ okT29 x.f8
theorem opensT31 : XOpen.Opens Try.prog 31 k31 okT31 := by
  intro H enc w base held fuel cs x h
  obtain ⟨xs, n, _, _, hl, hlen, hf⟩ := DataW.trod_struct Try.underlying31 h
  obtain ⟨a0, p0⟩ := XOpen.part_field hlen hf 0 rfl (by kernel_rfl) opensT3
  obtain ⟨a1, p1⟩ := XOpen.part_field hlen hf 1 rfl (by kernel_rfl) opensT3
  obtain ⟨a2, p2⟩ := XOpen.part_field hlen hf 2 rfl (by kernel_rfl) opensT3
  obtain ⟨a3, p3⟩ := XOpen.part_field hlen hf 3 rfl (by kernel_rfl) opensT22
  obtain ⟨a4, p4⟩ := XOpen.part_field hlen hf 4 rfl (by kernel_rfl) opensT23
  obtain ⟨a5, p5⟩ := XOpen.part_field hlen hf 5 rfl (by kernel_rfl) opensT24
  obtain ⟨a6, p6⟩ := XOpen.part_field hlen hf 6 rfl (by kernel_rfl) opensT25
  obtain ⟨a7, p7⟩ := XOpen.part_field hlen hf 7 rfl (by kernel_rfl) opensT27
  obtain ⟨a8, p8⟩ := XOpen.part_field hlen hf 8 rfl (by kernel_rfl) opensT29
  obtain ⟨hk, hg⟩ := XOpen.part_all (XOpen.part_pair p0 (XOpen.part_pair p1 (XOpen.part_pair p2 (XOpen.part_pair p3 (XOpen.part_pair p4 (XOpen.part_pair p5 (XOpen.part_pair p6 (XOpen.part_pair p7 p8 rfl) rfl) rfl) rfl) rfl) rfl) rfl) rfl) (hl.trans (by kernel_rfl))
  exact ⟨⟨a0, a1, a2, a3, a4, a5, a6, a7, a8⟩, hk, hg⟩
/-- THE ONE PURE STATEMENT of laws_FnExactModelOk. -/
def laws_FnExactModelOk.Pure : Prop := ∀ (x0 : S31), okT31 x0 → ∃ k, laws_FnExactModelOk.g k x0 = some true
end Go.Proofs.Ytacbkcofcbglhaa.PFnExactModelOk
