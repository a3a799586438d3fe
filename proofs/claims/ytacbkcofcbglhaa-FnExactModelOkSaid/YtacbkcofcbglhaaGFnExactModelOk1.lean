/- Functions that the statement reaches, as Lean functions, and the proof that a call of each comes to just its answer; written by this claim's own program. No conditions. -/
import Derived.Test.YtacbkcofcbglhaaGFnExactModelOk0
namespace Go.Proofs.Ytacbkcofcbglhaa.PFnExactModelOk
open Go.RowKit Go.Proofs.YtacbkcofcbglhaaW.PrintWords Go.Proofs.YtacbkcofcbglhaaW.PrintLast Go.Proofs.YtacbkcofcbglhaaW.PrintMore Go.Proofs.Ytacbkcofcbglhaa.XW Go.Proofs.Ytacbkcofcbglhaa.XOp Go.Proofs.Ytacbkcofcbglhaa.XSt Go.Proofs.Ytacbkcofcbglhaa.XDraw
set_option linter.unusedVariables false
set_option linter.unusedSimpArgs false
def spec_ModelOk.b3 (x0 : S39) (rec_ : Int → Option (Bool ⊕ Int)) (k236 : Nat) (i166 : Int) : Option (Bool ⊕ Int) := (if i166 < (x0.f4.length : Int) then (if 0 ≤ i166 ∧ i166 < (x0.f4.length : Int) then (if ((x0.f4.getD i166.toNat []).length : Int) = x0.f0 then ((spec_l05All.f k236 (x0.f4.getD i166.toNat []) (-127) 127).bind fun t250 => (if t250 = true then (rec_ (wrap64 (i166 + 1))) else (some (Sum.inl false)))) else (some (Sum.inl false))) else none) else (some (Sum.inr i166)))
def spec_ModelOk.l3 (x0 : S39) : Nat → Int → Option (Bool ⊕ Int)
  | 0, _ => none
  | k + 1, i166 => spec_ModelOk.b3 x0 (spec_ModelOk.l3 x0 k) k i166
def spec_ModelOk.b2 (x0 : S39) (rec_ : Int → Option (Bool ⊕ Int)) (k217 : Nat) (i175 : Int) : Option (Bool ⊕ Int) := (if i175 < (x0.f5.length : Int) then (if 0 ≤ i175 ∧ i175 < (x0.f5.length : Int) then ((spec_LayerOk.g k217 (x0.f5.getD i175.toNat o48) x0.f0).bind fun t229 => (if t229 = true then (rec_ (wrap64 (i175 + 1))) else (some (Sum.inl false)))) else none) else (some (Sum.inr i175)))
def spec_ModelOk.l2 (x0 : S39) : Nat → Int → Option (Bool ⊕ Int)
  | 0, _ => none
  | k + 1, i175 => spec_ModelOk.b2 x0 (spec_ModelOk.l2 x0 k) k i175
def spec_ModelOk.b1 (x0 : S39) (rec_ : Int → Option (Bool ⊕ Int)) (k112 : Nat) (i42 : Int) : Option (Bool ⊕ Int) := (if i42 < (x0.f4.length : Int) then (if 0 ≤ i42 ∧ i42 < (x0.f4.length : Int) then (if ((x0.f4.getD i42.toNat []).length : Int) = x0.f0 then ((spec_l05All.f k112 (x0.f4.getD i42.toNat []) (-127) 127).bind fun t126 => (if t126 = true then (rec_ (wrap64 (i42 + 1))) else (some (Sum.inl false)))) else (some (Sum.inl false))) else none) else (some (Sum.inr i42)))
def spec_ModelOk.l1 (x0 : S39) : Nat → Int → Option (Bool ⊕ Int)
  | 0, _ => none
  | k + 1, i42 => spec_ModelOk.b1 x0 (spec_ModelOk.l1 x0 k) k i42
def spec_ModelOk.b0 (x0 : S39) (rec_ : Int → Option (Bool ⊕ Int)) (k93 : Nat) (i51 : Int) : Option (Bool ⊕ Int) := (if i51 < (x0.f5.length : Int) then (if 0 ≤ i51 ∧ i51 < (x0.f5.length : Int) then ((spec_LayerOk.g k93 (x0.f5.getD i51.toNat o48) x0.f0).bind fun t105 => (if t105 = true then (rec_ (wrap64 (i51 + 1))) else (some (Sum.inl false)))) else none) else (some (Sum.inr i51)))
def spec_ModelOk.l0 (x0 : S39) : Nat → Int → Option (Bool ⊕ Int)
  | 0, _ => none
  | k + 1, i51 => spec_ModelOk.b0 x0 (spec_ModelOk.l0 x0 k) k i51
def spec_ModelOk.g (k : Nat) (x0 : S39) : Option Bool := ((spec_l05Width.f x0.f0).bind fun t7 => (if t7 = true then (if x0.f1 = 1 then ((spec_MergesOk.f k x0.f3).bind fun t16 => (if t16 = true then ((spec_Vocab.g k x0).bind fun t24 => (if (x0.f4.length : Int) = t24 then ((spec_l01In.f (x0.f5.length : Int) 1 2).bind fun t32 => (if t32 = true then ((spec_ModelOk.l1 x0 k 0).bind (fun o110 => match o110 with | .inl r_ => some r_ | .inr i42 => ((spec_ModelOk.l0 x0 k 0).bind (fun o91 => match o91 with | .inl r_ => some r_ | .inr i51 => ((spec_GainOk.f k x0.f6 x0.f0).bind fun t60 => (if t60 = true then ((spec_Vocab.g k x0).bind fun t72 => ((spec_l10Matrix.g k x0.f7 x0.f0 t72).bind fun t75 => (if t75 = true then (if x0.f1 ≠ 0 then ((spec_TurnsOk.f k x0.f8.f0 x0.f8.f1 x0.f2 (wrap64 (Int.tdiv (wrap64 (Int.tdiv x0.f0 x0.f1)) 2))).bind fun t88 => (some t88)) else none) else (some false)))) else (some false))))))) else (some false))) else (some false))) else (some false))) else (if x0.f1 = 2 then ((spec_MergesOk.f k x0.f3).bind fun t140 => (if t140 = true then ((spec_Vocab.g k x0).bind fun t148 => (if (x0.f4.length : Int) = t148 then ((spec_l01In.f (x0.f5.length : Int) 1 2).bind fun t156 => (if t156 = true then ((spec_ModelOk.l3 x0 k 0).bind (fun o234 => match o234 with | .inl r_ => some r_ | .inr i166 => ((spec_ModelOk.l2 x0 k 0).bind (fun o215 => match o215 with | .inl r_ => some r_ | .inr i175 => ((spec_GainOk.f k x0.f6 x0.f0).bind fun t184 => (if t184 = true then ((spec_Vocab.g k x0).bind fun t196 => ((spec_l10Matrix.g k x0.f7 x0.f0 t196).bind fun t199 => (if t199 = true then (if x0.f1 ≠ 0 then ((spec_TurnsOk.f k x0.f8.f0 x0.f8.f1 x0.f2 (wrap64 (Int.tdiv (wrap64 (Int.tdiv x0.f0 x0.f1)) 2))).bind fun t212 => (some t212)) else none) else (some false)))) else (some false))))))) else (some false))) else (some false))) else (some false))) else (some false))) else (some false)))
set_option maxHeartbeats 4000000 in
set_option maxRecDepth 20000 in
theorem spec_ModelOk.runs (k : Nat) (cs0 : List Value) (x0 : S39) (r : Bool) (w : World) (hk0 : k39.K w x0 cs0) (H : spec_ModelOk.g k x0 = some r) :
    Calls Try.prog 24 #[.agg cs0.toArray] w fun e w' => e = .returned (.bool r) ∧ Below w.heap.size w w' := by
  have el0 : cs0.length = 14 := k39.K_len hk0
  unfold spec_ModelOk.g at H
  have HS : St (fun _ => True) w w [] [(fun W => k39.K W x0 cs0)] [] := St.start (foot_cons (foot_K h39 hk0) foot_nil)
  refine calls_W Try.func24 rfl rfl (Nat.le_of_ble_eq_true rfl) (fun R_ hR_ => ?_)
  refine WC.seq (fun K1 hK1 => ?_)
  refine WC.region ?_
  refine WL.box HS rfl rfl (by decide) rfl rfl rfl (fun b2 w3 hb2 HS => ?_)
  refine as_ ?_
  refine WL.done ?_
  refine WQ.via (fun _ _ h_ => h_) hK1 ?_
  refine WC.seq (fun K4 hK4 => ?_)
  refine WC.seq (fun K5 hK5 => ?_)
  refine WC.drawS HS [] rfl rfl (fun w6 HS => ?_)
  have HB := Below.refl w6.heap.size w6
  have HSW := HS
  refine dp_ 0 (fun _ => Run.fieldAddr rfl rfl Try.underlying39 rfl (by kernel_rfl) rfl) ?_
  refine dt_ 1 (Below.refl _ _) (fun w_ hw_ => Run.load rfl rfl Try.underlying3 rfl (box_cell ((HS.below hw_).mu 0 rfl) (at39_0 (AtK.whole ((HS.below hw_).getO 0 rfl))).int)) ?_
  obtain ⟨t7, ha8, H⟩ := bind_some H
  refine dc_ 2 (w_none rfl) Try.func61 (spec_l05Width.calls x0.f0 t7 _ ha8) ?_
  rintro _ w9 ⟨rfl, hb⟩
  have hb := hb.below
  replace HB := HB.trans (hb.mono HB.size)
  replace HS := HS.below hb
  refine ⟨HB, _, rfl, ?_⟩
  clear hb
  refine dp_ 3 (fun _ => Run.not rfl rfl) ?_
  refine dp_ 4 (fun _ => Run.move rfl rfl) ?_
  by_cases c10 : t7 = true
  · rw [if_pos c10] at H
    refine dg_ 5 (congrArg (fun b_ => !b_) c10) (fun _ => Run.fieldAddr rfl rfl Try.underlying39 rfl (by kernel_rfl) rfl) ?_
    refine dh_ 6 (congrArg (fun b_ => !b_) c10) HB (fun w_ hw_ => Run.load rfl rfl Try.underlying3 rfl (box_cell ((HSW.below hw_).mu 0 rfl) (at39_1 (AtK.whole ((HSW.below hw_).getO 0 rfl))).int)) ?_
    refine dg_ 7 (congrArg (fun b_ => !b_) c10) (fun _ => Run.bin rfl rfl rfl bin_neq) ?_
    refine dg_ 8 (congrArg (fun b_ => !b_) c10) (fun _ => Run.move rfl rfl) ?_
    by_cases c11 : x0.f1 = 1
    · rw [if_pos c11] at H
      refine do_ (c' := false) 9 (bne_eq_false_iff_eq.mpr c11) ?_
      refine do_ (c' := false) 10 (bne_eq_false_iff_eq.mpr c11) ?_
      refine do_ (c' := false) 11 (bne_eq_false_iff_eq.mpr c11) ?_
      refine dg_ 12 (congrArg (fun b_ => !b_) c10) (fun _ => Run.pickF rfl rfl (bne_eq_false_iff_eq.mpr c11) rfl) ?_
      refine dp_ 13 (fun _ => Run.pickF rfl rfl (congrArg (fun b_ => !b_) c10) rfl) ?_
      refine dp_ 14 (fun _ => Run.move rfl rfl) ?_
      refine dg_ 15 rfl (fun _ => Run.fieldAddr rfl rfl Try.underlying39 rfl (by kernel_rfl) rfl) ?_
      obtain ⟨A12, c13, hc14, le15⟩ := (at39_3 (AtK.whole (HS.getO 0 rfl))).slice
      replace HS := HS.deriveO (p := (fun W => k112.C W A12 x0.f3.length x0.f3)) (fun W_ hO_ hN_ => (at39_3 (AtK.whole (AllF.get 0 rfl hO_))).C hc14)
      refine dh_ 16 rfl HB (fun w_ hw_ => Run.load rfl rfl Try.underlying34 rfl (box_cell ((HSW.below hw_).mu 0 rfl) hc14)) ?_
      obtain ⟨t16, ha17, H⟩ := bind_some H
      refine dc_ 17 (w_on rfl rfl rfl rfl) Try.func66 (spec_MergesOk.calls k A12 c13 x0.f3 t16 _ (HS.getO 0 rfl) le15 ha17) ?_
      rintro _ w18 ⟨rfl, hb⟩
      replace HB := HB.trans (hb.mono HB.size)
      replace HS := HS.below hb
      refine ⟨HB, _, rfl, ?_⟩
      clear hb
      refine dg_ 18 rfl (fun _ => Run.not rfl rfl) ?_
      refine dp_ 19 (fun _ => Run.pickF rfl rfl rfl rfl) ?_
      refine dp_ 20 (fun _ => Run.move rfl rfl) ?_
      by_cases c19 : t16 = true
      · rw [if_pos c19] at H
        refine dg_ 21 (congrArg (fun b_ => !b_) c19) (fun _ => Run.fieldAddr rfl rfl Try.underlying39 rfl (by kernel_rfl) rfl) ?_
        obtain ⟨A20, c21, hc22, le23⟩ := (at39_4 (AtK.whole (HS.getO 1 rfl))).slice
        replace HS := HS.deriveO (p := (fun W => (Kd.slice 3 (Kd.int .i64)).C W A20 x0.f4.length x0.f4)) (fun W_ hO_ hN_ => (at39_4 (AtK.whole (AllF.get 1 rfl hO_))).C hc22)
        refine dh_ 22 (congrArg (fun b_ => !b_) c19) HB (fun w_ hw_ => Run.load rfl rfl Try.underlying23 rfl (box_cell ((HSW.below hw_).mu 0 rfl) hc22)) ?_
        refine dg_ 23 (congrArg (fun b_ => !b_) c19) (fun _ => Run.len (ts := #[]) rfl Try.underlying23 rfl) ?_
        refine dh_ 24 (congrArg (fun b_ => !b_) c19) HB (fun w_ hw_ => Run.loadS (cs := cs0) rfl rfl Try.underlying39 rfl (by rw [el0]; kernel_rfl) (box_part ((HSW.below hw_).mu 0 rfl) part_all)) ?_
        obtain ⟨t24, ha25, H⟩ := bind_some H
        refine dc_ 25 (w_on rfl rfl rfl (congrArg (fun b_ => !b_) c19)) Try.func15 (spec_Vocab.runs k cs0 x0 t24 _ (HS.getO 2 rfl) ha25) ?_
        rintro _ w26 ⟨rfl, hb⟩
        replace HB := HB.trans (hb.mono HB.size)
        replace HS := HS.below hb
        refine ⟨HB, _, rfl, ?_⟩
        clear hb
        refine dg_ 26 (congrArg (fun b_ => !b_) c19) (fun _ => Run.bin rfl rfl rfl bin_neq) ?_
        refine dp_ 27 (fun _ => Run.pickF rfl rfl (congrArg (fun b_ => !b_) c19) rfl) ?_
        refine dp_ 28 (fun _ => Run.move rfl rfl) ?_
        by_cases c27 : (x0.f4.length : Int) = t24
        · rw [if_pos c27] at H
          refine dg_ 29 (bne_eq_false_iff_eq.mpr c27) (fun _ => Run.fieldAddr rfl rfl Try.underlying39 rfl (by kernel_rfl) rfl) ?_
          obtain ⟨A28, c29, hc30, le31⟩ := (at39_5 (AtK.whole (HS.getO 2 rfl))).slice
          replace HS := HS.deriveO (p := (fun W => k48.C W A28 x0.f5.length x0.f5)) (fun W_ hO_ hN_ => (at39_5 (AtK.whole (AllF.get 2 rfl hO_))).C hc30)
          refine dh_ 30 (bne_eq_false_iff_eq.mpr c27) HB (fun w_ hw_ => Run.load rfl rfl Try.underlying35 rfl (box_cell ((HSW.below hw_).mu 0 rfl) hc30)) ?_
          refine dg_ 31 (bne_eq_false_iff_eq.mpr c27) (fun _ => Run.len (ts := #[]) rfl Try.underlying35 rfl) ?_
          obtain ⟨t32, ha33, H⟩ := bind_some H
          refine dc_ 32 (w_on rfl rfl rfl (bne_eq_false_iff_eq.mpr c27)) Try.func67 (spec_l01In.calls (x0.f5.length : Int) 1 2 t32 _ ha33) ?_
          rintro _ w34 ⟨rfl, hb⟩
          have hb := hb.below
          replace HB := HB.trans (hb.mono HB.size)
          replace HS := HS.below hb
          refine ⟨HB, _, rfl, ?_⟩
          clear hb
          refine dg_ 33 (bne_eq_false_iff_eq.mpr c27) (fun _ => Run.not rfl rfl) ?_
          refine dp_ 34 (fun _ => Run.pickF rfl rfl (bne_eq_false_iff_eq.mpr c27) rfl) ?_
          refine WD.done (by kernel_rfl) ?_
          clear HB HSW
          refine WQ.via (fun _ _ h_ => h_) hK5 ?_
          by_cases c35 : t32 = true
          · rw [if_pos c35] at H
            refine WC.no rfl (congrArg (fun b_ => !b_) c35) ?_
            refine WC.skip ?_
            refine WQ.via (fun _ _ h_ => h_) hK4 ?_
            refine WC.seq (fun K36 hK36 => ?_)
            refine WC.seq (fun K37 hK37 => ?_)
            refine WC.region ?_
            refine as_ ?_
            refine WL.done ?_
            refine WQ.via (fun _ _ h_ => h_) hK37 ?_
            refine WC.block ?_
            obtain ⟨G38, hG39, o40, H, Ho41⟩ := open_G H
            have X43 : ∀ E_ W_, (∃ (i42 : Int), E_ = [(1, .pointer (some ⟨b2, 0, none⟩)), (3, .int .i64 i42)] ∧ G38 (Sum.inr i42) = some r ∧ St (fun _ => True) w W_ [boxM b2 cs0.toArray 39] [(fun W => k48.C W A28 x0.f5.length x0.f5), (fun W => (Kd.slice 3 (Kd.int .i64)).C W A20 x0.f4.length x0.f4), (fun W => k112.C W A12 x0.f3.length x0.f3), (fun W => k39.K W x0 cs0)] []) → ∀ a, Fits a 108 E_ → K36 a W_ := by
              rintro E_ w44 ⟨i42, rfl, H, HS⟩
              rw [hG39] at H
              (try dsimp only at H)
              refine hK36 _ _ ?_
              refine WC.seq (fun K45 hK45 => ?_)
              refine WC.seq (fun K46 hK46 => ?_)
              refine WC.region ?_
              refine as_ ?_
              refine WL.done ?_
              refine WQ.via (fun _ _ h_ => h_) hK46 ?_
              refine WC.block ?_
              obtain ⟨G47, hG48, o49, H, Ho50⟩ := open_G H
              have X52 : ∀ E_ W_, (∃ (i51 : Int), E_ = [(1, .pointer (some ⟨b2, 0, none⟩)), (4, .int .i64 i51)] ∧ G47 (Sum.inr i51) = some r ∧ St (fun _ => True) w W_ [boxM b2 cs0.toArray 39] [(fun W => k48.C W A28 x0.f5.length x0.f5), (fun W => (Kd.slice 3 (Kd.int .i64)).C W A20 x0.f4.length x0.f4), (fun W => k112.C W A12 x0.f3.length x0.f3), (fun W => k39.K W x0 cs0)] []) → ∀ a, Fits a 108 E_ → K45 a W_ := by
                rintro E_ w53 ⟨i51, rfl, H, HS⟩
                rw [hG48] at H
                (try dsimp only at H)
                refine hK45 _ _ ?_
                refine WC.seq (fun K54 hK54 => ?_)
                refine WC.drawS HS [] rfl rfl (fun w55 HS => ?_)
                have HB := Below.refl w55.heap.size w55
                have HSW := HS
                refine dp_ 0 (fun _ => Run.fieldAddr rfl rfl Try.underlying39 rfl (by kernel_rfl) rfl) ?_
                refine dp_ 2 (fun _ => Run.fieldAddr rfl rfl Try.underlying39 rfl (by kernel_rfl) rfl) ?_
                obtain ⟨A56, c57, hc58, le59⟩ := (at39_6 (AtK.whole (HS.getO 3 rfl))).slice
                replace HS := HS.deriveO (p := (fun W => (Kd.int .i64).C W A56 x0.f6.length x0.f6)) (fun W_ hO_ hN_ => (at39_6 (AtK.whole (AllF.get 3 rfl hO_))).C hc58)
                refine dt_ 1 (Below.refl _ _) (fun w_ hw_ => Run.load rfl rfl Try.underlying25 rfl (box_cell ((HS.below hw_).mu 0 rfl) hc58)) ?_
                refine dt_ 3 (Below.refl _ _) (fun w_ hw_ => Run.load rfl rfl Try.underlying3 rfl (box_cell ((HS.below hw_).mu 0 rfl) (at39_0 (AtK.whole ((HS.below hw_).getO 4 rfl))).int)) ?_
                obtain ⟨t60, ha61, H⟩ := bind_some H
                refine dc_ 4 (w_none rfl) Try.func62 (spec_GainOk.calls k A56 c57 x0.f6 x0.f0 t60 _ (HS.getO 0 rfl) le59 ha61) ?_
                rintro _ w62 ⟨rfl, hb⟩
                have hb := hb.below
                replace HB := HB.trans (hb.mono HB.size)
                replace HS := HS.below hb
                refine ⟨HB, _, rfl, ?_⟩
                clear hb
                refine dp_ 5 (fun _ => Run.move rfl rfl) ?_
                by_cases c63 : t60 = true
                · rw [if_pos c63] at H
                  refine dg_ 6 c63 (fun _ => Run.fieldAddr rfl rfl Try.underlying39 rfl (by kernel_rfl) rfl) ?_
                  refine dg_ 8 c63 (fun _ => Run.fieldAddr rfl rfl Try.underlying39 rfl (by kernel_rfl) rfl) ?_
                  obtain ⟨A64, c65, hc66, le67⟩ := (at39_8 (AtK.whole (HS.getO 4 rfl))).slice
                  replace HS := HS.deriveO (p := (fun W => (Kd.slice 3 (Kd.int .i64)).C W A64 x0.f7.f1.length x0.f7.f1)) (fun W_ hO_ hN_ => (at39_8 (AtK.whole (AllF.get 4 rfl hO_))).C hc66)
                  obtain ⟨A68, c69, hc70, le71⟩ := (at39_9 (AtK.whole (HS.getO 5 rfl))).slice
                  replace HS := HS.deriveO (p := (fun W => (Kd.slice 3 (Kd.int .i64)).C W A68 x0.f7.f2.length x0.f7.f2)) (fun W_ hO_ hN_ => (at39_9 (AtK.whole (AllF.get 5 rfl hO_))).C hc70)
                  refine dh_ 7 c63 HB (fun w_ hw_ => Run.loadS (cs := [.int .i64 x0.f7.f0, .slice A64 x0.f7.f1.length c65, .slice A68 x0.f7.f2.length c69, .int .i64 x0.f7.f3, .int .i64 x0.f7.f4]) rfl rfl Try.underlying36 rfl (by kernel_rfl) (box_part ((HSW.below hw_).mu 0 rfl) (part_cons (at39_7 (AtK.whole ((HSW.below hw_).getO 3 rfl))).int (part_cons hc66 (part_cons hc70 (part_cons (at39_10 (AtK.whole ((HSW.below hw_).getO 3 rfl))).int (part_cons (at39_11 (AtK.whole ((HSW.below hw_).getO 3 rfl))).int part_nil))))))) ?_
                  refine dh_ 9 c63 HB (fun w_ hw_ => Run.load rfl rfl Try.underlying3 rfl (box_cell ((HSW.below hw_).mu 0 rfl) (at39_0 (AtK.whole ((HSW.below hw_).getO 3 rfl))).int)) ?_
                  refine dh_ 10 c63 HB (fun w_ hw_ => Run.loadS (cs := cs0) rfl rfl Try.underlying39 rfl (by rw [el0]; kernel_rfl) (box_part ((HSW.below hw_).mu 0 rfl) part_all)) ?_
                  obtain ⟨t72, ha73, H⟩ := bind_some H
                  refine dc_ 11 (w_on rfl rfl rfl c63) Try.func15 (spec_Vocab.runs k cs0 x0 t72 _ (HS.getO 6 rfl) ha73) ?_
                  rintro _ w74 ⟨rfl, hb⟩
                  replace HB := HB.trans (hb.mono HB.size)
                  replace HS := HS.below hb
                  refine ⟨HB, _, rfl, ?_⟩
                  clear hb
                  obtain ⟨t75, ha76, H⟩ := bind_some H
                  refine dc_ 12 (w_on rfl rfl rfl c63) Try.func63 (spec_l10Matrix.runs k x0.f7 A64 c65 A68 c69 x0.f0 t72 t75 _ (HS.getO 1 rfl) le67 (HS.getO 0 rfl) le71 ha76) ?_
                  rintro _ w77 ⟨rfl, hb⟩
                  replace HB := HB.trans (hb.mono HB.size)
                  replace HS := HS.below hb
                  refine ⟨HB, _, rfl, ?_⟩
                  clear hb
                  refine dp_ 13 (fun _ => Run.pickT rfl rfl c63 rfl) ?_
                  refine dp_ 14 (fun _ => Run.move rfl rfl) ?_
                  by_cases c78 : t75 = true
                  · rw [if_pos c78] at H
                    refine dg_ 15 c78 (fun _ => Run.fieldAddr rfl rfl Try.underlying39 rfl (by kernel_rfl) rfl) ?_
                    refine dg_ 17 c78 (fun _ => Run.fieldAddr rfl rfl Try.underlying39 rfl (by kernel_rfl) rfl) ?_
                    refine dg_ 19 c78 (fun _ => Run.fieldAddr rfl rfl Try.underlying39 rfl (by kernel_rfl) rfl) ?_
                    refine dg_ 21 c78 (fun _ => Run.fieldAddr rfl rfl Try.underlying39 rfl (by kernel_rfl) rfl) ?_
                    obtain ⟨A79, c80, hc81, le82⟩ := (at39_12 (AtK.whole (HS.getO 6 rfl))).slice
                    replace HS := HS.deriveO (p := (fun W => (Kd.slice 3 (Kd.int .i64)).C W A79 x0.f8.f0.length x0.f8.f0)) (fun W_ hO_ hN_ => (at39_12 (AtK.whole (AllF.get 6 rfl hO_))).C hc81)
                    obtain ⟨A83, c84, hc85, le86⟩ := (at39_13 (AtK.whole (HS.getO 7 rfl))).slice
                    replace HS := HS.deriveO (p := (fun W => (Kd.slice 3 (Kd.int .i64)).C W A83 x0.f8.f1.length x0.f8.f1)) (fun W_ hO_ hN_ => (at39_13 (AtK.whole (AllF.get 7 rfl hO_))).C hc85)
                    refine dh_ 16 c78 HB (fun w_ hw_ => Run.loadS (cs := [.slice A79 x0.f8.f0.length c80, .slice A83 x0.f8.f1.length c84]) rfl rfl Try.underlying37 rfl (by kernel_rfl) (box_part ((HSW.below hw_).mu 0 rfl) (part_cons hc81 (part_cons hc85 part_nil)))) ?_
                    refine dh_ 18 c78 HB (fun w_ hw_ => Run.load rfl rfl Try.underlying3 rfl (box_cell ((HSW.below hw_).mu 0 rfl) (at39_2 (AtK.whole ((HSW.below hw_).getO 3 rfl))).int)) ?_
                    refine dh_ 20 c78 HB (fun w_ hw_ => Run.load rfl rfl Try.underlying3 rfl (box_cell ((HSW.below hw_).mu 0 rfl) (at39_0 (AtK.whole ((HSW.below hw_).getO 3 rfl))).int)) ?_
                    refine dh_ 22 c78 HB (fun w_ hw_ => Run.load rfl rfl Try.underlying3 rfl (box_cell ((HSW.below hw_).mu 0 rfl) (at39_1 (AtK.whole ((HSW.below hw_).getO 3 rfl))).int)) ?_
                    obtain ⟨z87, H⟩ := if_some H
                    refine dg_ 23 c78 (fun _ => Run.bin rfl rfl rfl (bin_quo64 z87)) ?_
                    refine dg_ 24 c78 (fun _ => Run.bin rfl rfl rfl (bin_quo64 (show (2 : Int) ≠ 0 by decide))) ?_
                    obtain ⟨t88, ha89, H⟩ := bind_some H
                    refine dc_ 25 (w_on rfl rfl rfl c78) Try.func69 (spec_TurnsOk.calls k A79 c80 x0.f8.f0 A83 c84 x0.f8.f1 x0.f2 (wrap64 (Int.tdiv (wrap64 (Int.tdiv x0.f0 x0.f1)) 2)) t88 _ (HS.getO 1 rfl) le82 (HS.getO 0 rfl) le86 ha89) ?_
                    rintro _ w90 ⟨rfl, hb⟩
                    replace HB := HB.trans (hb.mono HB.size)
                    replace HS := HS.below hb
                    refine ⟨HB, _, rfl, ?_⟩
                    clear hb
                    refine dp_ 26 (fun _ => Run.pickT rfl rfl c78 rfl) ?_
                    refine dp_ 27 (fun _ => Run.assign rfl rfl) ?_
                    refine WD.done (by kernel_rfl) ?_
                    clear HB HSW
                    refine WQ.via (fun _ _ h_ => h_) hK54 ?_
                    refine WC.ret ?_
                    obtain rfl := Option.some.inj H
                    refine WQ.fin (e' := .ret) (fn := Try.f24) (fun _ _ h_ => h_) (WQ.ret1 rfl rfl ?_)
                    exact hR_ _ _ ⟨rfl, HS.b⟩
                  · rw [if_neg c78] at H
                    refine do_ (c' := false) 15 (Bool.eq_false_iff.mpr c78) ?_
                    refine do_ (c' := false) 16 (Bool.eq_false_iff.mpr c78) ?_
                    refine do_ (c' := false) 17 (Bool.eq_false_iff.mpr c78) ?_
                    refine do_ (c' := false) 18 (Bool.eq_false_iff.mpr c78) ?_
                    refine do_ (c' := false) 19 (Bool.eq_false_iff.mpr c78) ?_
                    refine do_ (c' := false) 20 (Bool.eq_false_iff.mpr c78) ?_
                    refine do_ (c' := false) 21 (Bool.eq_false_iff.mpr c78) ?_
                    refine do_ (c' := false) 22 (Bool.eq_false_iff.mpr c78) ?_
                    refine do_ (c' := false) 23 (Bool.eq_false_iff.mpr c78) ?_
                    refine do_ (c' := false) 24 (Bool.eq_false_iff.mpr c78) ?_
                    refine do_ (c' := false) 25 (Bool.eq_false_iff.mpr c78) ?_
                    refine dp_ 26 (fun _ => Run.pickF rfl rfl (Bool.eq_false_iff.mpr c78) rfl) ?_
                    refine dp_ 27 (fun _ => Run.assign rfl rfl) ?_
                    refine WD.done (by kernel_rfl) ?_
                    clear HB HSW
                    refine WQ.via (fun _ _ h_ => h_) hK54 ?_
                    refine WC.ret ?_
                    obtain rfl := Option.some.inj H
                    refine WQ.fin (e' := .ret) (fn := Try.f24) (fun _ _ h_ => h_) (WQ.ret1 rfl rfl ?_)
                    exact hR_ _ _ ⟨rfl, HS.b⟩
                · rw [if_neg c63] at H
                  refine do_ (c' := false) 6 (Bool.eq_false_iff.mpr c63) ?_
                  refine do_ (c' := false) 7 (Bool.eq_false_iff.mpr c63) ?_
                  refine do_ (c' := false) 8 (Bool.eq_false_iff.mpr c63) ?_
                  refine do_ (c' := false) 9 (Bool.eq_false_iff.mpr c63) ?_
                  refine do_ (c' := false) 10 (Bool.eq_false_iff.mpr c63) ?_
                  refine do_ (c' := false) 11 (Bool.eq_false_iff.mpr c63) ?_
                  refine do_ (c' := false) 12 (Bool.eq_false_iff.mpr c63) ?_
                  refine dp_ 13 (fun _ => Run.pickF rfl rfl (Bool.eq_false_iff.mpr c63) rfl) ?_
                  refine dp_ 14 (fun _ => Run.move rfl rfl) ?_
                  refine do_ (c' := false) 15 rfl ?_
                  refine do_ (c' := false) 16 rfl ?_
                  refine do_ (c' := false) 17 rfl ?_
                  refine do_ (c' := false) 18 rfl ?_
                  refine do_ (c' := false) 19 rfl ?_
                  refine do_ (c' := false) 20 rfl ?_
                  refine do_ (c' := false) 21 rfl ?_
                  refine do_ (c' := false) 22 rfl ?_
                  refine do_ (c' := false) 23 rfl ?_
                  refine do_ (c' := false) 24 rfl ?_
                  refine do_ (c' := false) 25 rfl ?_
                  refine dp_ 26 (fun _ => Run.pickF rfl rfl rfl rfl) ?_
                  refine dp_ 27 (fun _ => Run.assign rfl rfl) ?_
                  refine WD.done (by kernel_rfl) ?_
                  clear HB HSW
                  refine WQ.via (fun _ _ h_ => h_) hK54 ?_
                  refine WC.ret ?_
                  obtain rfl := Option.some.inj H
                  refine WQ.fin (e' := .ret) (fn := Try.f24) (fun _ _ h_ => h_) (WQ.ret1 rfl rfl ?_)
                  exact hR_ _ _ ⟨rfl, HS.b⟩
              refine WC.loop (fun k_ E_ W_ => ∃ (i51 : Int), E_ = [(1, .pointer (some ⟨b2, 0, none⟩)), (4, .int .i64 i51)] ∧ (∃ o_, spec_ModelOk.l0 x0 k_ i51 = some o_ ∧ G47 o_ = some r) ∧ St (fun _ => True) w W_ [boxM b2 cs0.toArray 39] [(fun W => k48.C W A28 x0.f5.length x0.f5), (fun W => (Kd.slice 3 (Kd.int .i64)).C W A20 x0.f4.length x0.f4), (fun W => k112.C W A12 x0.f3.length x0.f3), (fun W => k39.K W x0 cs0)] []) k ⟨0, rfl, ⟨_, H, Ho50⟩, (St.pick HS (fun W_ h_ => ⟨AllF.get 0 rfl h_, AllF.get 1 rfl h_, AllF.get 2 rfl h_, AllF.get 3 rfl h_, trivial⟩) (fun W_ h_ => trivial))⟩ ⟨rfl, rfl, trivial⟩ ?_
              rintro k_ E_ w92 ⟨i51, rfl, ⟨o49, H, Ho50⟩, HS⟩
              rcases k_ with _ | k93
              · exact (Option.some_ne_none _ (show none = some _ from H).symm).elim
              replace H : spec_ModelOk.b0 x0 (spec_ModelOk.l0 x0 k93) k93 i51 = some o49 := H
              unfold spec_ModelOk.b0 at H
              refine WC.seq (fun K94 hK94 => ?_)
              refine WC.seq (fun K95 hK95 => ?_)
              refine WC.region ?_
              refine mv_ ?_
              refine v_ (Run.fieldAddr rfl rfl Try.underlying39 rfl (by kernel_rfl) rfl) ?_
              refine v_ (Run.load rfl rfl Try.underlying35 rfl (box_cell (HS.mu 0 rfl) hc30)) ?_
              refine v_ (Run.len (ts := #[]) rfl Try.underlying35 rfl) ?_
              refine v_ (Run.bin rfl rfl rfl bin_lss) ?_
              refine WL.done ?_
              refine WQ.via (fun _ _ h_ => h_) hK95 ?_
              by_cases c96 : i51 < (x0.f5.length : Int)
              · rw [if_pos c96] at H
                refine WC.yes rfl (decide_eq_true c96) ?_
                refine WC.skip ?_
                refine WQ.via (fun _ _ h_ => h_) hK94 ?_
                refine WC.seq (fun K97 hK97 => ?_)
                refine WC.block ?_
                refine WC.seq (fun K98 hK98 => ?_)
                refine WC.drawS HS [] rfl rfl (fun w99 HS => ?_)
                have HB := Below.refl w99.heap.size w99
                have HSW := HS
                refine dp_ 0 (fun _ => Run.fieldAddr rfl rfl Try.underlying39 rfl (by kernel_rfl) rfl) ?_
                refine dp_ 2 (fun _ => Run.move rfl rfl) ?_
                refine dp_ 5 (fun _ => Run.fieldAddr rfl rfl Try.underlying39 rfl (by kernel_rfl) rfl) ?_
                refine dt_ 1 (Below.refl _ _) (fun w_ hw_ => Run.load rfl rfl Try.underlying35 rfl (box_cell ((HS.below hw_).mu 0 rfl) hc30)) ?_
                obtain ⟨⟨q100, q101⟩, H⟩ := if_some H
                obtain ⟨ad102, rfl⟩ := C_open (HS.getO 0 rfl) (by omega)
                refine dp_ 3 (fun _ => Run.indexAddr rfl rfl rfl Try.underlying35 (sz := 32) (by kernel_rfl) q100 q101) ?_
                obtain ⟨e103, el104, HS⟩ := HS.elO 0 rfl (by decide) o48 i51 q100 q101
                replace HS := HS.deriveO (p := (fun W => k48.K W (x0.f5.getD i51.toNat o48) e103)) (fun W_ hO_ hN_ => (AllF.get 0 rfl hO_).1)
                refine dt_ 4 (Below.refl _ _) (fun w_ hw_ => Run.loadS (cs := e103) rfl rfl Try.underlying48 rfl (by rw [el104]; kernel_rfl) ((HS.below hw_).getO 1 rfl).2) ?_
                refine dt_ 6 (Below.refl _ _) (fun w_ hw_ => Run.load rfl rfl Try.underlying3 rfl (box_cell ((HS.below hw_).mu 0 rfl) (at39_0 (AtK.whole ((HS.below hw_).getO 5 rfl))).int)) ?_
                obtain ⟨t105, ha106, H⟩ := bind_some H
                refine dc_ 7 (w_none rfl) Try.func20 (spec_LayerOk.runs k93 e103 (x0.f5.getD i51.toNat o48) x0.f0 t105 _ (HS.getO 0 rfl) ha106) ?_
                rintro _ w107 ⟨rfl, hb⟩
                replace HB := HB.trans (hb.mono HB.size)
                replace HS := HS.below hb
                refine ⟨HB, _, rfl, ?_⟩
                clear hb
                refine dp_ 8 (fun _ => Run.not rfl rfl) ?_
                refine WD.done (by kernel_rfl) ?_
                clear HB HSW
                refine WQ.via (fun _ _ h_ => h_) hK98 ?_
                by_cases c108 : t105 = true
                · rw [if_pos c108] at H
                  refine WC.no rfl (congrArg (fun b_ => !b_) c108) ?_
                  refine WC.skip ?_
                  refine WQ.via (fun _ _ h_ => h_) hK97 ?_
                  refine WC.region ?_
                  refine mv_ ?_
                  refine v_ (Run.bin rfl rfl rfl bin_add64) ?_
                  refine as_ ?_
                  refine WL.done ?_
                  exact WQ.round k93 (fun _ _ h_ => h_) (Nat.lt_succ_self _) ⟨(wrap64 (i51 + 1)), rfl, ⟨_, H, Ho50⟩, (St.pick HS (fun W_ h_ => ⟨AllF.get 2 rfl h_, AllF.get 3 rfl h_, AllF.get 4 rfl h_, AllF.get 5 rfl h_, trivial⟩) (fun W_ h_ => trivial))⟩ ⟨rfl, rfl, trivial⟩
                · rw [if_neg c108] at H
                  refine WC.yes rfl (congrArg (fun b_ => !b_) (Bool.eq_false_iff.mpr c108)) ?_
                  refine WC.seq (fun K109 hK109 => ?_)
                  refine WC.region ?_
                  refine as_ ?_
                  refine WL.done ?_
                  refine WQ.via (fun _ _ h_ => h_) hK109 ?_
                  refine WC.ret ?_
                  obtain rfl := Option.some.inj H
                  rw [hG48] at Ho50
                  replace H : some _ = some _ := Ho50
                  obtain rfl := Option.some.inj H
                  refine WQ.fin (e' := .ret) (fn := Try.f24) (fun _ _ h_ => h_) (WQ.ret1 rfl rfl ?_)
                  exact hR_ _ _ ⟨rfl, HS.b⟩
              · rw [if_neg c96] at H
                refine WC.no rfl (decide_eq_false c96) ?_
                refine WC.exit ?_
                obtain rfl := Option.some.inj H
                exact WQ.via2 (fun _ _ h_ => h_) X52 ⟨i51, rfl, Ho50, (St.pick HS (fun W_ h_ => ⟨AllF.get 0 rfl h_, AllF.get 1 rfl h_, AllF.get 2 rfl h_, AllF.get 3 rfl h_, trivial⟩) (fun W_ h_ => trivial))⟩ ⟨rfl, rfl, trivial⟩
            refine WC.loop (fun k_ E_ W_ => ∃ (i42 : Int), E_ = [(1, .pointer (some ⟨b2, 0, none⟩)), (3, .int .i64 i42)] ∧ (∃ o_, spec_ModelOk.l1 x0 k_ i42 = some o_ ∧ G38 o_ = some r) ∧ St (fun _ => True) w W_ [boxM b2 cs0.toArray 39] [(fun W => k48.C W A28 x0.f5.length x0.f5), (fun W => (Kd.slice 3 (Kd.int .i64)).C W A20 x0.f4.length x0.f4), (fun W => k112.C W A12 x0.f3.length x0.f3), (fun W => k39.K W x0 cs0)] []) k ⟨0, rfl, ⟨_, H, Ho41⟩, (St.pick HS (fun W_ h_ => ⟨AllF.get 0 rfl h_, AllF.get 1 rfl h_, AllF.get 2 rfl h_, AllF.get 3 rfl h_, trivial⟩) (fun W_ h_ => trivial))⟩ ⟨rfl, rfl, trivial⟩ ?_
            rintro k_ E_ w111 ⟨i42, rfl, ⟨o40, H, Ho41⟩, HS⟩
            rcases k_ with _ | k112
            · exact (Option.some_ne_none _ (show none = some _ from H).symm).elim
            replace H : spec_ModelOk.b1 x0 (spec_ModelOk.l1 x0 k112) k112 i42 = some o40 := H
            unfold spec_ModelOk.b1 at H
            refine WC.seq (fun K113 hK113 => ?_)
            refine WC.seq (fun K114 hK114 => ?_)
            refine WC.region ?_
            refine mv_ ?_
            refine v_ (Run.fieldAddr rfl rfl Try.underlying39 rfl (by kernel_rfl) rfl) ?_
            refine v_ (Run.load rfl rfl Try.underlying23 rfl (box_cell (HS.mu 0 rfl) hc22)) ?_
            refine v_ (Run.len (ts := #[]) rfl Try.underlying23 rfl) ?_
            refine v_ (Run.bin rfl rfl rfl bin_lss) ?_
            refine WL.done ?_
            refine WQ.via (fun _ _ h_ => h_) hK114 ?_
            by_cases c115 : i42 < (x0.f4.length : Int)
            · rw [if_pos c115] at H
              refine WC.yes rfl (decide_eq_true c115) ?_
              refine WC.skip ?_
              refine WQ.via (fun _ _ h_ => h_) hK113 ?_
              refine WC.seq (fun K116 hK116 => ?_)
              refine WC.block ?_
              refine WC.seq (fun K117 hK117 => ?_)
              refine WC.drawS HS [] rfl rfl (fun w118 HS => ?_)
              have HB := Below.refl w118.heap.size w118
              have HSW := HS
              refine dp_ 0 (fun _ => Run.fieldAddr rfl rfl Try.underlying39 rfl (by kernel_rfl) rfl) ?_
              refine dp_ 2 (fun _ => Run.move rfl rfl) ?_
              refine dp_ 6 (fun _ => Run.fieldAddr rfl rfl Try.underlying39 rfl (by kernel_rfl) rfl) ?_
              refine dt_ 1 (Below.refl _ _) (fun w_ hw_ => Run.load rfl rfl Try.underlying23 rfl (box_cell ((HS.below hw_).mu 0 rfl) hc22)) ?_
              obtain ⟨⟨q119, q120⟩, H⟩ := if_some H
              obtain ⟨ad121, rfl⟩ := C_open (HS.getO 1 rfl) (by omega)
              refine dp_ 3 (fun _ => Run.indexAddr rfl rfl rfl Try.underlying23 (sz := 1) (by kernel_rfl) q119 q120) ?_
              obtain ⟨A122, c123, le124, HS⟩ := HS.slO 1 rfl i42 q119 q120
              refine dt_ 4 (Below.refl _ _) (fun w_ hw_ => Run.load rfl rfl Try.underlying25 rfl ((HS.below hw_).getO 1 rfl)) ?_
              refine dp_ 5 (fun _ => Run.len (ts := #[]) rfl Try.underlying25 rfl) ?_
              refine dt_ 7 (Below.refl _ _) (fun w_ hw_ => Run.load rfl rfl Try.underlying3 rfl (box_cell ((HS.below hw_).mu 0 rfl) (at39_0 (AtK.whole ((HS.below hw_).getO 5 rfl))).int)) ?_
              refine dp_ 8 (fun _ => Run.bin rfl rfl rfl bin_neq) ?_
              refine dp_ 9 (fun _ => Run.move rfl rfl) ?_
              by_cases c125 : ((x0.f4.getD i42.toNat []).length : Int) = x0.f0
              · rw [if_pos c125] at H
                refine dg_ 10 (bne_eq_false_iff_eq.mpr c125) (fun _ => Run.fieldAddr rfl rfl Try.underlying39 rfl (by kernel_rfl) rfl) ?_
                refine dg_ 12 (bne_eq_false_iff_eq.mpr c125) (fun _ => Run.move rfl rfl) ?_
                refine dh_ 11 (bne_eq_false_iff_eq.mpr c125) (Below.refl _ _) (fun w_ hw_ => Run.load rfl rfl Try.underlying23 rfl (box_cell ((HS.below hw_).mu 0 rfl) hc22)) ?_
                refine dg_ 13 (bne_eq_false_iff_eq.mpr c125) (fun _ => Run.indexAddr rfl rfl rfl Try.underlying23 (sz := 1) (by kernel_rfl) q119 q120) ?_
                refine dh_ 14 (bne_eq_false_iff_eq.mpr c125) (Below.refl _ _) (fun w_ hw_ => Run.load rfl rfl Try.underlying25 rfl ((HS.below hw_).getO 1 rfl)) ?_
                obtain ⟨t126, ha127, H⟩ := bind_some H
                refine dc_ 15 (w_on rfl rfl rfl (bne_eq_false_iff_eq.mpr c125)) Try.func68 (spec_l05All.calls k112 A122 c123 (x0.f4.getD i42.toNat []) (-127) 127 t126 _ (HS.getO 0 rfl) le124 ha127) ?_
                rintro _ w128 ⟨rfl, hb⟩
                have hb := hb.below
                replace HB := HB.trans (hb.mono HB.size)
                replace HS := HS.below hb
                refine ⟨HB, _, rfl, ?_⟩
                clear hb
                refine dg_ 16 (bne_eq_false_iff_eq.mpr c125) (fun _ => Run.not rfl rfl) ?_
                refine dp_ 17 (fun _ => Run.pickF rfl rfl (bne_eq_false_iff_eq.mpr c125) rfl) ?_
                refine WD.done (by kernel_rfl) ?_
                clear HB HSW
                refine WQ.via (fun _ _ h_ => h_) hK117 ?_
                by_cases c129 : t126 = true
                · rw [if_pos c129] at H
                  refine WC.no rfl (congrArg (fun b_ => !b_) c129) ?_
                  refine WC.skip ?_
                  refine WQ.via (fun _ _ h_ => h_) hK116 ?_
                  refine WC.region ?_
                  refine mv_ ?_
                  refine v_ (Run.bin rfl rfl rfl bin_add64) ?_
                  refine as_ ?_
                  refine WL.done ?_
                  exact WQ.round k112 (fun _ _ h_ => h_) (Nat.lt_succ_self _) ⟨(wrap64 (i42 + 1)), rfl, ⟨_, H, Ho41⟩, (St.pick HS (fun W_ h_ => ⟨AllF.get 2 rfl h_, AllF.get 3 rfl h_, AllF.get 4 rfl h_, AllF.get 5 rfl h_, trivial⟩) (fun W_ h_ => trivial))⟩ ⟨rfl, rfl, trivial⟩
                · rw [if_neg c129] at H
                  refine WC.yes rfl (congrArg (fun b_ => !b_) (Bool.eq_false_iff.mpr c129)) ?_
                  refine WC.seq (fun K130 hK130 => ?_)
                  refine WC.region ?_
                  refine as_ ?_
                  refine WL.done ?_
                  refine WQ.via (fun _ _ h_ => h_) hK130 ?_
                  refine WC.ret ?_
                  obtain rfl := Option.some.inj H
                  rw [hG39] at Ho41
                  replace H : some _ = some _ := Ho41
                  obtain rfl := Option.some.inj H
                  refine WQ.fin (e' := .ret) (fn := Try.f24) (fun _ _ h_ => h_) (WQ.ret1 rfl rfl ?_)
                  exact hR_ _ _ ⟨rfl, HS.b⟩
              · rw [if_neg c125] at H
                refine do_ (c' := true) 10 (bne_iff_ne.mpr c125) ?_
                refine do_ (c' := true) 11 (bne_iff_ne.mpr c125) ?_
                refine do_ (c' := true) 12 (bne_iff_ne.mpr c125) ?_
                refine do_ (c' := true) 13 (bne_iff_ne.mpr c125) ?_
                refine do_ (c' := true) 14 (bne_iff_ne.mpr c125) ?_
                refine do_ (c' := true) 15 (bne_iff_ne.mpr c125) ?_
                refine do_ (c' := true) 16 (bne_iff_ne.mpr c125) ?_
                refine dp_ 17 (fun _ => Run.pickT rfl rfl (bne_iff_ne.mpr c125) rfl) ?_
                refine WD.done (by kernel_rfl) ?_
                clear HB HSW
                refine WQ.via (fun _ _ h_ => h_) hK117 ?_
                refine WC.yes rfl rfl ?_
                refine WC.seq (fun K131 hK131 => ?_)
                refine WC.region ?_
                refine as_ ?_
                refine WL.done ?_
                refine WQ.via (fun _ _ h_ => h_) hK131 ?_
                refine WC.ret ?_
                obtain rfl := Option.some.inj H
                rw [hG39] at Ho41
                replace H : some _ = some _ := Ho41
                obtain rfl := Option.some.inj H
                refine WQ.fin (e' := .ret) (fn := Try.f24) (fun _ _ h_ => h_) (WQ.ret1 rfl rfl ?_)
                exact hR_ _ _ ⟨rfl, HS.b⟩
            · rw [if_neg c115] at H
              refine WC.no rfl (decide_eq_false c115) ?_
              refine WC.exit ?_
              obtain rfl := Option.some.inj H
              exact WQ.via2 (fun _ _ h_ => h_) X43 ⟨i42, rfl, Ho41, (St.pick HS (fun W_ h_ => ⟨AllF.get 0 rfl h_, AllF.get 1 rfl h_, AllF.get 2 rfl h_, AllF.get 3 rfl h_, trivial⟩) (fun W_ h_ => trivial))⟩ ⟨rfl, rfl, trivial⟩
          · rw [if_neg c35] at H
            refine WC.yes rfl (congrArg (fun b_ => !b_) (Bool.eq_false_iff.mpr c35)) ?_
            refine WC.seq (fun K132 hK132 => ?_)
            refine WC.region ?_
            refine as_ ?_
            refine WL.done ?_
            refine WQ.via (fun _ _ h_ => h_) hK132 ?_
            refine WC.ret ?_
            obtain rfl := Option.some.inj H
            refine WQ.fin (e' := .ret) (fn := Try.f24) (fun _ _ h_ => h_) (WQ.ret1 rfl rfl ?_)
            exact hR_ _ _ ⟨rfl, HS.b⟩
        · rw [if_neg c27] at H
          refine do_ (c' := true) 29 (bne_iff_ne.mpr c27) ?_
          refine do_ (c' := true) 30 (bne_iff_ne.mpr c27) ?_
          refine do_ (c' := true) 31 (bne_iff_ne.mpr c27) ?_
          refine do_ (c' := true) 32 (bne_iff_ne.mpr c27) ?_
          refine do_ (c' := true) 33 (bne_iff_ne.mpr c27) ?_
          refine dp_ 34 (fun _ => Run.pickT rfl rfl (bne_iff_ne.mpr c27) rfl) ?_
          refine WD.done (by kernel_rfl) ?_
          clear HB HSW
          refine WQ.via (fun _ _ h_ => h_) hK5 ?_
          refine WC.yes rfl rfl ?_
          refine WC.seq (fun K133 hK133 => ?_)
          refine WC.region ?_
          refine as_ ?_
          refine WL.done ?_
          refine WQ.via (fun _ _ h_ => h_) hK133 ?_
          refine WC.ret ?_
          obtain rfl := Option.some.inj H
          refine WQ.fin (e' := .ret) (fn := Try.f24) (fun _ _ h_ => h_) (WQ.ret1 rfl rfl ?_)
          exact hR_ _ _ ⟨rfl, HS.b⟩
      · rw [if_neg c19] at H
        refine do_ (c' := true) 21 (congrArg (fun b_ => !b_) (Bool.eq_false_iff.mpr c19)) ?_
        refine do_ (c' := true) 22 (congrArg (fun b_ => !b_) (Bool.eq_false_iff.mpr c19)) ?_
        refine do_ (c' := true) 23 (congrArg (fun b_ => !b_) (Bool.eq_false_iff.mpr c19)) ?_
        refine do_ (c' := true) 24 (congrArg (fun b_ => !b_) (Bool.eq_false_iff.mpr c19)) ?_
        refine do_ (c' := true) 25 (congrArg (fun b_ => !b_) (Bool.eq_false_iff.mpr c19)) ?_
        refine do_ (c' := true) 26 (congrArg (fun b_ => !b_) (Bool.eq_false_iff.mpr c19)) ?_
        refine dp_ 27 (fun _ => Run.pickT rfl rfl (congrArg (fun b_ => !b_) (Bool.eq_false_iff.mpr c19)) rfl) ?_
        refine dp_ 28 (fun _ => Run.move rfl rfl) ?_
        refine do_ (c' := true) 29 rfl ?_
        refine do_ (c' := true) 30 rfl ?_
        refine do_ (c' := true) 31 rfl ?_
        refine do_ (c' := true) 32 rfl ?_
        refine do_ (c' := true) 33 rfl ?_
        refine dp_ 34 (fun _ => Run.pickT rfl rfl rfl rfl) ?_
        refine WD.done (by kernel_rfl) ?_
        clear HB HSW
        refine WQ.via (fun _ _ h_ => h_) hK5 ?_
        refine WC.yes rfl rfl ?_
        refine WC.seq (fun K134 hK134 => ?_)
        refine WC.region ?_
        refine as_ ?_
        refine WL.done ?_
        refine WQ.via (fun _ _ h_ => h_) hK134 ?_
        refine WC.ret ?_
        obtain rfl := Option.some.inj H
        refine WQ.fin (e' := .ret) (fn := Try.f24) (fun _ _ h_ => h_) (WQ.ret1 rfl rfl ?_)
        exact hR_ _ _ ⟨rfl, HS.b⟩
    · rw [if_neg c11] at H
      refine dg_ 9 (bne_iff_ne.mpr c11) (fun _ => Run.fieldAddr rfl rfl Try.underlying39 rfl (by kernel_rfl) rfl) ?_
      refine dh_ 10 (bne_iff_ne.mpr c11) HB (fun w_ hw_ => Run.load rfl rfl Try.underlying3 rfl (box_cell ((HSW.below hw_).mu 0 rfl) (at39_1 (AtK.whole ((HSW.below hw_).getO 0 rfl))).int)) ?_
      refine dg_ 11 (bne_iff_ne.mpr c11) (fun _ => Run.bin rfl rfl rfl bin_neq) ?_
      refine dg_ 12 (congrArg (fun b_ => !b_) c10) (fun _ => Run.pickT rfl rfl (bne_iff_ne.mpr c11) rfl) ?_
      refine dp_ 13 (fun _ => Run.pickF rfl rfl (congrArg (fun b_ => !b_) c10) rfl) ?_
      refine dp_ 14 (fun _ => Run.move rfl rfl) ?_
      by_cases c135 : x0.f1 = 2
      · rw [if_pos c135] at H
        refine dg_ 15 (bne_eq_false_iff_eq.mpr c135) (fun _ => Run.fieldAddr rfl rfl Try.underlying39 rfl (by kernel_rfl) rfl) ?_
        obtain ⟨A136, c137, hc138, le139⟩ := (at39_3 (AtK.whole (HS.getO 0 rfl))).slice
        replace HS := HS.deriveO (p := (fun W => k112.C W A136 x0.f3.length x0.f3)) (fun W_ hO_ hN_ => (at39_3 (AtK.whole (AllF.get 0 rfl hO_))).C hc138)
        refine dh_ 16 (bne_eq_false_iff_eq.mpr c135) HB (fun w_ hw_ => Run.load rfl rfl Try.underlying34 rfl (box_cell ((HSW.below hw_).mu 0 rfl) hc138)) ?_
        obtain ⟨t140, ha141, H⟩ := bind_some H
        refine dc_ 17 (w_on rfl rfl rfl (bne_eq_false_iff_eq.mpr c135)) Try.func66 (spec_MergesOk.calls k A136 c137 x0.f3 t140 _ (HS.getO 0 rfl) le139 ha141) ?_
        rintro _ w142 ⟨rfl, hb⟩
        replace HB := HB.trans (hb.mono HB.size)
        replace HS := HS.below hb
        refine ⟨HB, _, rfl, ?_⟩
        clear hb
        refine dg_ 18 (bne_eq_false_iff_eq.mpr c135) (fun _ => Run.not rfl rfl) ?_
        refine dp_ 19 (fun _ => Run.pickF rfl rfl (bne_eq_false_iff_eq.mpr c135) rfl) ?_
        refine dp_ 20 (fun _ => Run.move rfl rfl) ?_
        by_cases c143 : t140 = true
        · rw [if_pos c143] at H
          refine dg_ 21 (congrArg (fun b_ => !b_) c143) (fun _ => Run.fieldAddr rfl rfl Try.underlying39 rfl (by kernel_rfl) rfl) ?_
          obtain ⟨A144, c145, hc146, le147⟩ := (at39_4 (AtK.whole (HS.getO 1 rfl))).slice
          replace HS := HS.deriveO (p := (fun W => (Kd.slice 3 (Kd.int .i64)).C W A144 x0.f4.length x0.f4)) (fun W_ hO_ hN_ => (at39_4 (AtK.whole (AllF.get 1 rfl hO_))).C hc146)
          refine dh_ 22 (congrArg (fun b_ => !b_) c143) HB (fun w_ hw_ => Run.load rfl rfl Try.underlying23 rfl (box_cell ((HSW.below hw_).mu 0 rfl) hc146)) ?_
          refine dg_ 23 (congrArg (fun b_ => !b_) c143) (fun _ => Run.len (ts := #[]) rfl Try.underlying23 rfl) ?_
          refine dh_ 24 (congrArg (fun b_ => !b_) c143) HB (fun w_ hw_ => Run.loadS (cs := cs0) rfl rfl Try.underlying39 rfl (by rw [el0]; kernel_rfl) (box_part ((HSW.below hw_).mu 0 rfl) part_all)) ?_
          obtain ⟨t148, ha149, H⟩ := bind_some H
          refine dc_ 25 (w_on rfl rfl rfl (congrArg (fun b_ => !b_) c143)) Try.func15 (spec_Vocab.runs k cs0 x0 t148 _ (HS.getO 2 rfl) ha149) ?_
          rintro _ w150 ⟨rfl, hb⟩
          replace HB := HB.trans (hb.mono HB.size)
          replace HS := HS.below hb
          refine ⟨HB, _, rfl, ?_⟩
          clear hb
          refine dg_ 26 (congrArg (fun b_ => !b_) c143) (fun _ => Run.bin rfl rfl rfl bin_neq) ?_
          refine dp_ 27 (fun _ => Run.pickF rfl rfl (congrArg (fun b_ => !b_) c143) rfl) ?_
          refine dp_ 28 (fun _ => Run.move rfl rfl) ?_
          by_cases c151 : (x0.f4.length : Int) = t148
          · rw [if_pos c151] at H
            refine dg_ 29 (bne_eq_false_iff_eq.mpr c151) (fun _ => Run.fieldAddr rfl rfl Try.underlying39 rfl (by kernel_rfl) rfl) ?_
            obtain ⟨A152, c153, hc154, le155⟩ := (at39_5 (AtK.whole (HS.getO 2 rfl))).slice
            replace HS := HS.deriveO (p := (fun W => k48.C W A152 x0.f5.length x0.f5)) (fun W_ hO_ hN_ => (at39_5 (AtK.whole (AllF.get 2 rfl hO_))).C hc154)
            refine dh_ 30 (bne_eq_false_iff_eq.mpr c151) HB (fun w_ hw_ => Run.load rfl rfl Try.underlying35 rfl (box_cell ((HSW.below hw_).mu 0 rfl) hc154)) ?_
            refine dg_ 31 (bne_eq_false_iff_eq.mpr c151) (fun _ => Run.len (ts := #[]) rfl Try.underlying35 rfl) ?_
            obtain ⟨t156, ha157, H⟩ := bind_some H
            refine dc_ 32 (w_on rfl rfl rfl (bne_eq_false_iff_eq.mpr c151)) Try.func67 (spec_l01In.calls (x0.f5.length : Int) 1 2 t156 _ ha157) ?_
            rintro _ w158 ⟨rfl, hb⟩
            have hb := hb.below
            replace HB := HB.trans (hb.mono HB.size)
            replace HS := HS.below hb
            refine ⟨HB, _, rfl, ?_⟩
            clear hb
            refine dg_ 33 (bne_eq_false_iff_eq.mpr c151) (fun _ => Run.not rfl rfl) ?_
            refine dp_ 34 (fun _ => Run.pickF rfl rfl (bne_eq_false_iff_eq.mpr c151) rfl) ?_
            refine WD.done (by kernel_rfl) ?_
            clear HB HSW
            refine WQ.via (fun _ _ h_ => h_) hK5 ?_
            by_cases c159 : t156 = true
            · rw [if_pos c159] at H
              refine WC.no rfl (congrArg (fun b_ => !b_) c159) ?_
              refine WC.skip ?_
              refine WQ.via (fun _ _ h_ => h_) hK4 ?_
              refine WC.seq (fun K160 hK160 => ?_)
              refine WC.seq (fun K161 hK161 => ?_)
              refine WC.region ?_
              refine as_ ?_
              refine WL.done ?_
              refine WQ.via (fun _ _ h_ => h_) hK161 ?_
              refine WC.block ?_
              obtain ⟨G162, hG163, o164, H, Ho165⟩ := open_G H
              have X167 : ∀ E_ W_, (∃ (i166 : Int), E_ = [(1, .pointer (some ⟨b2, 0, none⟩)), (3, .int .i64 i166)] ∧ G162 (Sum.inr i166) = some r ∧ St (fun _ => True) w W_ [boxM b2 cs0.toArray 39] [(fun W => k48.C W A152 x0.f5.length x0.f5), (fun W => (Kd.slice 3 (Kd.int .i64)).C W A144 x0.f4.length x0.f4), (fun W => k112.C W A136 x0.f3.length x0.f3), (fun W => k39.K W x0 cs0)] []) → ∀ a, Fits a 108 E_ → K160 a W_ := by
                rintro E_ w168 ⟨i166, rfl, H, HS⟩
                rw [hG163] at H
                (try dsimp only at H)
                refine hK160 _ _ ?_
                refine WC.seq (fun K169 hK169 => ?_)
                refine WC.seq (fun K170 hK170 => ?_)
                refine WC.region ?_
                refine as_ ?_
                refine WL.done ?_
                refine WQ.via (fun _ _ h_ => h_) hK170 ?_
                refine WC.block ?_
                obtain ⟨G171, hG172, o173, H, Ho174⟩ := open_G H
                have X176 : ∀ E_ W_, (∃ (i175 : Int), E_ = [(1, .pointer (some ⟨b2, 0, none⟩)), (4, .int .i64 i175)] ∧ G171 (Sum.inr i175) = some r ∧ St (fun _ => True) w W_ [boxM b2 cs0.toArray 39] [(fun W => k48.C W A152 x0.f5.length x0.f5), (fun W => (Kd.slice 3 (Kd.int .i64)).C W A144 x0.f4.length x0.f4), (fun W => k112.C W A136 x0.f3.length x0.f3), (fun W => k39.K W x0 cs0)] []) → ∀ a, Fits a 108 E_ → K169 a W_ := by
                  rintro E_ w177 ⟨i175, rfl, H, HS⟩
                  rw [hG172] at H
                  (try dsimp only at H)
                  refine hK169 _ _ ?_
                  refine WC.seq (fun K178 hK178 => ?_)
                  refine WC.drawS HS [] rfl rfl (fun w179 HS => ?_)
                  have HB := Below.refl w179.heap.size w179
                  have HSW := HS
                  refine dp_ 0 (fun _ => Run.fieldAddr rfl rfl Try.underlying39 rfl (by kernel_rfl) rfl) ?_
                  refine dp_ 2 (fun _ => Run.fieldAddr rfl rfl Try.underlying39 rfl (by kernel_rfl) rfl) ?_
                  obtain ⟨A180, c181, hc182, le183⟩ := (at39_6 (AtK.whole (HS.getO 3 rfl))).slice
                  replace HS := HS.deriveO (p := (fun W => (Kd.int .i64).C W A180 x0.f6.length x0.f6)) (fun W_ hO_ hN_ => (at39_6 (AtK.whole (AllF.get 3 rfl hO_))).C hc182)
                  refine dt_ 1 (Below.refl _ _) (fun w_ hw_ => Run.load rfl rfl Try.underlying25 rfl (box_cell ((HS.below hw_).mu 0 rfl) hc182)) ?_
                  refine dt_ 3 (Below.refl _ _) (fun w_ hw_ => Run.load rfl rfl Try.underlying3 rfl (box_cell ((HS.below hw_).mu 0 rfl) (at39_0 (AtK.whole ((HS.below hw_).getO 4 rfl))).int)) ?_
                  obtain ⟨t184, ha185, H⟩ := bind_some H
                  refine dc_ 4 (w_none rfl) Try.func62 (spec_GainOk.calls k A180 c181 x0.f6 x0.f0 t184 _ (HS.getO 0 rfl) le183 ha185) ?_
                  rintro _ w186 ⟨rfl, hb⟩
                  have hb := hb.below
                  replace HB := HB.trans (hb.mono HB.size)
                  replace HS := HS.below hb
                  refine ⟨HB, _, rfl, ?_⟩
                  clear hb
                  refine dp_ 5 (fun _ => Run.move rfl rfl) ?_
                  by_cases c187 : t184 = true
                  · rw [if_pos c187] at H
                    refine dg_ 6 c187 (fun _ => Run.fieldAddr rfl rfl Try.underlying39 rfl (by kernel_rfl) rfl) ?_
                    refine dg_ 8 c187 (fun _ => Run.fieldAddr rfl rfl Try.underlying39 rfl (by kernel_rfl) rfl) ?_
                    obtain ⟨A188, c189, hc190, le191⟩ := (at39_8 (AtK.whole (HS.getO 4 rfl))).slice
                    replace HS := HS.deriveO (p := (fun W => (Kd.slice 3 (Kd.int .i64)).C W A188 x0.f7.f1.length x0.f7.f1)) (fun W_ hO_ hN_ => (at39_8 (AtK.whole (AllF.get 4 rfl hO_))).C hc190)
                    obtain ⟨A192, c193, hc194, le195⟩ := (at39_9 (AtK.whole (HS.getO 5 rfl))).slice
                    replace HS := HS.deriveO (p := (fun W => (Kd.slice 3 (Kd.int .i64)).C W A192 x0.f7.f2.length x0.f7.f2)) (fun W_ hO_ hN_ => (at39_9 (AtK.whole (AllF.get 5 rfl hO_))).C hc194)
                    refine dh_ 7 c187 HB (fun w_ hw_ => Run.loadS (cs := [.int .i64 x0.f7.f0, .slice A188 x0.f7.f1.length c189, .slice A192 x0.f7.f2.length c193, .int .i64 x0.f7.f3, .int .i64 x0.f7.f4]) rfl rfl Try.underlying36 rfl (by kernel_rfl) (box_part ((HSW.below hw_).mu 0 rfl) (part_cons (at39_7 (AtK.whole ((HSW.below hw_).getO 3 rfl))).int (part_cons hc190 (part_cons hc194 (part_cons (at39_10 (AtK.whole ((HSW.below hw_).getO 3 rfl))).int (part_cons (at39_11 (AtK.whole ((HSW.below hw_).getO 3 rfl))).int part_nil))))))) ?_
                    refine dh_ 9 c187 HB (fun w_ hw_ => Run.load rfl rfl Try.underlying3 rfl (box_cell ((HSW.below hw_).mu 0 rfl) (at39_0 (AtK.whole ((HSW.below hw_).getO 3 rfl))).int)) ?_
                    refine dh_ 10 c187 HB (fun w_ hw_ => Run.loadS (cs := cs0) rfl rfl Try.underlying39 rfl (by rw [el0]; kernel_rfl) (box_part ((HSW.below hw_).mu 0 rfl) part_all)) ?_
                    obtain ⟨t196, ha197, H⟩ := bind_some H
                    refine dc_ 11 (w_on rfl rfl rfl c187) Try.func15 (spec_Vocab.runs k cs0 x0 t196 _ (HS.getO 6 rfl) ha197) ?_
                    rintro _ w198 ⟨rfl, hb⟩
                    replace HB := HB.trans (hb.mono HB.size)
                    replace HS := HS.below hb
                    refine ⟨HB, _, rfl, ?_⟩
                    clear hb
                    obtain ⟨t199, ha200, H⟩ := bind_some H
                    refine dc_ 12 (w_on rfl rfl rfl c187) Try.func63 (spec_l10Matrix.runs k x0.f7 A188 c189 A192 c193 x0.f0 t196 t199 _ (HS.getO 1 rfl) le191 (HS.getO 0 rfl) le195 ha200) ?_
                    rintro _ w201 ⟨rfl, hb⟩
                    replace HB := HB.trans (hb.mono HB.size)
                    replace HS := HS.below hb
                    refine ⟨HB, _, rfl, ?_⟩
                    clear hb
                    refine dp_ 13 (fun _ => Run.pickT rfl rfl c187 rfl) ?_
                    refine dp_ 14 (fun _ => Run.move rfl rfl) ?_
                    by_cases c202 : t199 = true
                    · rw [if_pos c202] at H
                      refine dg_ 15 c202 (fun _ => Run.fieldAddr rfl rfl Try.underlying39 rfl (by kernel_rfl) rfl) ?_
                      refine dg_ 17 c202 (fun _ => Run.fieldAddr rfl rfl Try.underlying39 rfl (by kernel_rfl) rfl) ?_
                      refine dg_ 19 c202 (fun _ => Run.fieldAddr rfl rfl Try.underlying39 rfl (by kernel_rfl) rfl) ?_
                      refine dg_ 21 c202 (fun _ => Run.fieldAddr rfl rfl Try.underlying39 rfl (by kernel_rfl) rfl) ?_
                      obtain ⟨A203, c204, hc205, le206⟩ := (at39_12 (AtK.whole (HS.getO 6 rfl))).slice
                      replace HS := HS.deriveO (p := (fun W => (Kd.slice 3 (Kd.int .i64)).C W A203 x0.f8.f0.length x0.f8.f0)) (fun W_ hO_ hN_ => (at39_12 (AtK.whole (AllF.get 6 rfl hO_))).C hc205)
                      obtain ⟨A207, c208, hc209, le210⟩ := (at39_13 (AtK.whole (HS.getO 7 rfl))).slice
                      replace HS := HS.deriveO (p := (fun W => (Kd.slice 3 (Kd.int .i64)).C W A207 x0.f8.f1.length x0.f8.f1)) (fun W_ hO_ hN_ => (at39_13 (AtK.whole (AllF.get 7 rfl hO_))).C hc209)
                      refine dh_ 16 c202 HB (fun w_ hw_ => Run.loadS (cs := [.slice A203 x0.f8.f0.length c204, .slice A207 x0.f8.f1.length c208]) rfl rfl Try.underlying37 rfl (by kernel_rfl) (box_part ((HSW.below hw_).mu 0 rfl) (part_cons hc205 (part_cons hc209 part_nil)))) ?_
                      refine dh_ 18 c202 HB (fun w_ hw_ => Run.load rfl rfl Try.underlying3 rfl (box_cell ((HSW.below hw_).mu 0 rfl) (at39_2 (AtK.whole ((HSW.below hw_).getO 3 rfl))).int)) ?_
                      refine dh_ 20 c202 HB (fun w_ hw_ => Run.load rfl rfl Try.underlying3 rfl (box_cell ((HSW.below hw_).mu 0 rfl) (at39_0 (AtK.whole ((HSW.below hw_).getO 3 rfl))).int)) ?_
                      refine dh_ 22 c202 HB (fun w_ hw_ => Run.load rfl rfl Try.underlying3 rfl (box_cell ((HSW.below hw_).mu 0 rfl) (at39_1 (AtK.whole ((HSW.below hw_).getO 3 rfl))).int)) ?_
                      obtain ⟨z211, H⟩ := if_some H
                      refine dg_ 23 c202 (fun _ => Run.bin rfl rfl rfl (bin_quo64 z211)) ?_
                      refine dg_ 24 c202 (fun _ => Run.bin rfl rfl rfl (bin_quo64 (show (2 : Int) ≠ 0 by decide))) ?_
                      obtain ⟨t212, ha213, H⟩ := bind_some H
                      refine dc_ 25 (w_on rfl rfl rfl c202) Try.func69 (spec_TurnsOk.calls k A203 c204 x0.f8.f0 A207 c208 x0.f8.f1 x0.f2 (wrap64 (Int.tdiv (wrap64 (Int.tdiv x0.f0 x0.f1)) 2)) t212 _ (HS.getO 1 rfl) le206 (HS.getO 0 rfl) le210 ha213) ?_
                      rintro _ w214 ⟨rfl, hb⟩
                      replace HB := HB.trans (hb.mono HB.size)
                      replace HS := HS.below hb
                      refine ⟨HB, _, rfl, ?_⟩
                      clear hb
                      refine dp_ 26 (fun _ => Run.pickT rfl rfl c202 rfl) ?_
                      refine dp_ 27 (fun _ => Run.assign rfl rfl) ?_
                      refine WD.done (by kernel_rfl) ?_
                      clear HB HSW
                      refine WQ.via (fun _ _ h_ => h_) hK178 ?_
                      refine WC.ret ?_
                      obtain rfl := Option.some.inj H
                      refine WQ.fin (e' := .ret) (fn := Try.f24) (fun _ _ h_ => h_) (WQ.ret1 rfl rfl ?_)
                      exact hR_ _ _ ⟨rfl, HS.b⟩
                    · rw [if_neg c202] at H
                      refine do_ (c' := false) 15 (Bool.eq_false_iff.mpr c202) ?_
                      refine do_ (c' := false) 16 (Bool.eq_false_iff.mpr c202) ?_
                      refine do_ (c' := false) 17 (Bool.eq_false_iff.mpr c202) ?_
                      refine do_ (c' := false) 18 (Bool.eq_false_iff.mpr c202) ?_
                      refine do_ (c' := false) 19 (Bool.eq_false_iff.mpr c202) ?_
                      refine do_ (c' := false) 20 (Bool.eq_false_iff.mpr c202) ?_
                      refine do_ (c' := false) 21 (Bool.eq_false_iff.mpr c202) ?_
                      refine do_ (c' := false) 22 (Bool.eq_false_iff.mpr c202) ?_
                      refine do_ (c' := false) 23 (Bool.eq_false_iff.mpr c202) ?_
                      refine do_ (c' := false) 24 (Bool.eq_false_iff.mpr c202) ?_
                      refine do_ (c' := false) 25 (Bool.eq_false_iff.mpr c202) ?_
                      refine dp_ 26 (fun _ => Run.pickF rfl rfl (Bool.eq_false_iff.mpr c202) rfl) ?_
                      refine dp_ 27 (fun _ => Run.assign rfl rfl) ?_
                      refine WD.done (by kernel_rfl) ?_
                      clear HB HSW
                      refine WQ.via (fun _ _ h_ => h_) hK178 ?_
                      refine WC.ret ?_
                      obtain rfl := Option.some.inj H
                      refine WQ.fin (e' := .ret) (fn := Try.f24) (fun _ _ h_ => h_) (WQ.ret1 rfl rfl ?_)
                      exact hR_ _ _ ⟨rfl, HS.b⟩
                  · rw [if_neg c187] at H
                    refine do_ (c' := false) 6 (Bool.eq_false_iff.mpr c187) ?_
                    refine do_ (c' := false) 7 (Bool.eq_false_iff.mpr c187) ?_
                    refine do_ (c' := false) 8 (Bool.eq_false_iff.mpr c187) ?_
                    refine do_ (c' := false) 9 (Bool.eq_false_iff.mpr c187) ?_
                    refine do_ (c' := false) 10 (Bool.eq_false_iff.mpr c187) ?_
                    refine do_ (c' := false) 11 (Bool.eq_false_iff.mpr c187) ?_
                    refine do_ (c' := false) 12 (Bool.eq_false_iff.mpr c187) ?_
                    refine dp_ 13 (fun _ => Run.pickF rfl rfl (Bool.eq_false_iff.mpr c187) rfl) ?_
                    refine dp_ 14 (fun _ => Run.move rfl rfl) ?_
                    refine do_ (c' := false) 15 rfl ?_
                    refine do_ (c' := false) 16 rfl ?_
                    refine do_ (c' := false) 17 rfl ?_
                    refine do_ (c' := false) 18 rfl ?_
                    refine do_ (c' := false) 19 rfl ?_
                    refine do_ (c' := false) 20 rfl ?_
                    refine do_ (c' := false) 21 rfl ?_
                    refine do_ (c' := false) 22 rfl ?_
                    refine do_ (c' := false) 23 rfl ?_
                    refine do_ (c' := false) 24 rfl ?_
                    refine do_ (c' := false) 25 rfl ?_
                    refine dp_ 26 (fun _ => Run.pickF rfl rfl rfl rfl) ?_
                    refine dp_ 27 (fun _ => Run.assign rfl rfl) ?_
                    refine WD.done (by kernel_rfl) ?_
                    clear HB HSW
                    refine WQ.via (fun _ _ h_ => h_) hK178 ?_
                    refine WC.ret ?_
                    obtain rfl := Option.some.inj H
                    refine WQ.fin (e' := .ret) (fn := Try.f24) (fun _ _ h_ => h_) (WQ.ret1 rfl rfl ?_)
                    exact hR_ _ _ ⟨rfl, HS.b⟩
                refine WC.loop (fun k_ E_ W_ => ∃ (i175 : Int), E_ = [(1, .pointer (some ⟨b2, 0, none⟩)), (4, .int .i64 i175)] ∧ (∃ o_, spec_ModelOk.l2 x0 k_ i175 = some o_ ∧ G171 o_ = some r) ∧ St (fun _ => True) w W_ [boxM b2 cs0.toArray 39] [(fun W => k48.C W A152 x0.f5.length x0.f5), (fun W => (Kd.slice 3 (Kd.int .i64)).C W A144 x0.f4.length x0.f4), (fun W => k112.C W A136 x0.f3.length x0.f3), (fun W => k39.K W x0 cs0)] []) k ⟨0, rfl, ⟨_, H, Ho174⟩, (St.pick HS (fun W_ h_ => ⟨AllF.get 0 rfl h_, AllF.get 1 rfl h_, AllF.get 2 rfl h_, AllF.get 3 rfl h_, trivial⟩) (fun W_ h_ => trivial))⟩ ⟨rfl, rfl, trivial⟩ ?_
                rintro k_ E_ w216 ⟨i175, rfl, ⟨o173, H, Ho174⟩, HS⟩
                rcases k_ with _ | k217
                · exact (Option.some_ne_none _ (show none = some _ from H).symm).elim
                replace H : spec_ModelOk.b2 x0 (spec_ModelOk.l2 x0 k217) k217 i175 = some o173 := H
                unfold spec_ModelOk.b2 at H
                refine WC.seq (fun K218 hK218 => ?_)
                refine WC.seq (fun K219 hK219 => ?_)
                refine WC.region ?_
                refine mv_ ?_
                refine v_ (Run.fieldAddr rfl rfl Try.underlying39 rfl (by kernel_rfl) rfl) ?_
                refine v_ (Run.load rfl rfl Try.underlying35 rfl (box_cell (HS.mu 0 rfl) hc154)) ?_
                refine v_ (Run.len (ts := #[]) rfl Try.underlying35 rfl) ?_
                refine v_ (Run.bin rfl rfl rfl bin_lss) ?_
                refine WL.done ?_
                refine WQ.via (fun _ _ h_ => h_) hK219 ?_
                by_cases c220 : i175 < (x0.f5.length : Int)
                · rw [if_pos c220] at H
                  refine WC.yes rfl (decide_eq_true c220) ?_
                  refine WC.skip ?_
                  refine WQ.via (fun _ _ h_ => h_) hK218 ?_
                  refine WC.seq (fun K221 hK221 => ?_)
                  refine WC.block ?_
                  refine WC.seq (fun K222 hK222 => ?_)
                  refine WC.drawS HS [] rfl rfl (fun w223 HS => ?_)
                  have HB := Below.refl w223.heap.size w223
                  have HSW := HS
                  refine dp_ 0 (fun _ => Run.fieldAddr rfl rfl Try.underlying39 rfl (by kernel_rfl) rfl) ?_
                  refine dp_ 2 (fun _ => Run.move rfl rfl) ?_
                  refine dp_ 5 (fun _ => Run.fieldAddr rfl rfl Try.underlying39 rfl (by kernel_rfl) rfl) ?_
                  refine dt_ 1 (Below.refl _ _) (fun w_ hw_ => Run.load rfl rfl Try.underlying35 rfl (box_cell ((HS.below hw_).mu 0 rfl) hc154)) ?_
                  obtain ⟨⟨q224, q225⟩, H⟩ := if_some H
                  obtain ⟨ad226, rfl⟩ := C_open (HS.getO 0 rfl) (by omega)
                  refine dp_ 3 (fun _ => Run.indexAddr rfl rfl rfl Try.underlying35 (sz := 32) (by kernel_rfl) q224 q225) ?_
                  obtain ⟨e227, el228, HS⟩ := HS.elO 0 rfl (by decide) o48 i175 q224 q225
                  replace HS := HS.deriveO (p := (fun W => k48.K W (x0.f5.getD i175.toNat o48) e227)) (fun W_ hO_ hN_ => (AllF.get 0 rfl hO_).1)
                  refine dt_ 4 (Below.refl _ _) (fun w_ hw_ => Run.loadS (cs := e227) rfl rfl Try.underlying48 rfl (by rw [el228]; kernel_rfl) ((HS.below hw_).getO 1 rfl).2) ?_
                  refine dt_ 6 (Below.refl _ _) (fun w_ hw_ => Run.load rfl rfl Try.underlying3 rfl (box_cell ((HS.below hw_).mu 0 rfl) (at39_0 (AtK.whole ((HS.below hw_).getO 5 rfl))).int)) ?_
                  obtain ⟨t229, ha230, H⟩ := bind_some H
                  refine dc_ 7 (w_none rfl) Try.func20 (spec_LayerOk.runs k217 e227 (x0.f5.getD i175.toNat o48) x0.f0 t229 _ (HS.getO 0 rfl) ha230) ?_
                  rintro _ w231 ⟨rfl, hb⟩
                  replace HB := HB.trans (hb.mono HB.size)
                  replace HS := HS.below hb
                  refine ⟨HB, _, rfl, ?_⟩
                  clear hb
                  refine dp_ 8 (fun _ => Run.not rfl rfl) ?_
                  refine WD.done (by kernel_rfl) ?_
                  clear HB HSW
                  refine WQ.via (fun _ _ h_ => h_) hK222 ?_
                  by_cases c232 : t229 = true
                  · rw [if_pos c232] at H
                    refine WC.no rfl (congrArg (fun b_ => !b_) c232) ?_
                    refine WC.skip ?_
                    refine WQ.via (fun _ _ h_ => h_) hK221 ?_
                    refine WC.region ?_
                    refine mv_ ?_
                    refine v_ (Run.bin rfl rfl rfl bin_add64) ?_
                    refine as_ ?_
                    refine WL.done ?_
                    exact WQ.round k217 (fun _ _ h_ => h_) (Nat.lt_succ_self _) ⟨(wrap64 (i175 + 1)), rfl, ⟨_, H, Ho174⟩, (St.pick HS (fun W_ h_ => ⟨AllF.get 2 rfl h_, AllF.get 3 rfl h_, AllF.get 4 rfl h_, AllF.get 5 rfl h_, trivial⟩) (fun W_ h_ => trivial))⟩ ⟨rfl, rfl, trivial⟩
                  · rw [if_neg c232] at H
                    refine WC.yes rfl (congrArg (fun b_ => !b_) (Bool.eq_false_iff.mpr c232)) ?_
                    refine WC.seq (fun K233 hK233 => ?_)
                    refine WC.region ?_
                    refine as_ ?_
                    refine WL.done ?_
                    refine WQ.via (fun _ _ h_ => h_) hK233 ?_
                    refine WC.ret ?_
                    obtain rfl := Option.some.inj H
                    rw [hG172] at Ho174
                    replace H : some _ = some _ := Ho174
                    obtain rfl := Option.some.inj H
                    refine WQ.fin (e' := .ret) (fn := Try.f24) (fun _ _ h_ => h_) (WQ.ret1 rfl rfl ?_)
                    exact hR_ _ _ ⟨rfl, HS.b⟩
                · rw [if_neg c220] at H
                  refine WC.no rfl (decide_eq_false c220) ?_
                  refine WC.exit ?_
                  obtain rfl := Option.some.inj H
                  exact WQ.via2 (fun _ _ h_ => h_) X176 ⟨i175, rfl, Ho174, (St.pick HS (fun W_ h_ => ⟨AllF.get 0 rfl h_, AllF.get 1 rfl h_, AllF.get 2 rfl h_, AllF.get 3 rfl h_, trivial⟩) (fun W_ h_ => trivial))⟩ ⟨rfl, rfl, trivial⟩
              refine WC.loop (fun k_ E_ W_ => ∃ (i166 : Int), E_ = [(1, .pointer (some ⟨b2, 0, none⟩)), (3, .int .i64 i166)] ∧ (∃ o_, spec_ModelOk.l3 x0 k_ i166 = some o_ ∧ G162 o_ = some r) ∧ St (fun _ => True) w W_ [boxM b2 cs0.toArray 39] [(fun W => k48.C W A152 x0.f5.length x0.f5), (fun W => (Kd.slice 3 (Kd.int .i64)).C W A144 x0.f4.length x0.f4), (fun W => k112.C W A136 x0.f3.length x0.f3), (fun W => k39.K W x0 cs0)] []) k ⟨0, rfl, ⟨_, H, Ho165⟩, (St.pick HS (fun W_ h_ => ⟨AllF.get 0 rfl h_, AllF.get 1 rfl h_, AllF.get 2 rfl h_, AllF.get 3 rfl h_, trivial⟩) (fun W_ h_ => trivial))⟩ ⟨rfl, rfl, trivial⟩ ?_
              rintro k_ E_ w235 ⟨i166, rfl, ⟨o164, H, Ho165⟩, HS⟩
              rcases k_ with _ | k236
              · exact (Option.some_ne_none _ (show none = some _ from H).symm).elim
              replace H : spec_ModelOk.b3 x0 (spec_ModelOk.l3 x0 k236) k236 i166 = some o164 := H
              unfold spec_ModelOk.b3 at H
              refine WC.seq (fun K237 hK237 => ?_)
              refine WC.seq (fun K238 hK238 => ?_)
              refine WC.region ?_
              refine mv_ ?_
              refine v_ (Run.fieldAddr rfl rfl Try.underlying39 rfl (by kernel_rfl) rfl) ?_
              refine v_ (Run.load rfl rfl Try.underlying23 rfl (box_cell (HS.mu 0 rfl) hc146)) ?_
              refine v_ (Run.len (ts := #[]) rfl Try.underlying23 rfl) ?_
              refine v_ (Run.bin rfl rfl rfl bin_lss) ?_
              refine WL.done ?_
              refine WQ.via (fun _ _ h_ => h_) hK238 ?_
              by_cases c239 : i166 < (x0.f4.length : Int)
              · rw [if_pos c239] at H
                refine WC.yes rfl (decide_eq_true c239) ?_
                refine WC.skip ?_
                refine WQ.via (fun _ _ h_ => h_) hK237 ?_
                refine WC.seq (fun K240 hK240 => ?_)
                refine WC.block ?_
                refine WC.seq (fun K241 hK241 => ?_)
                refine WC.drawS HS [] rfl rfl (fun w242 HS => ?_)
                have HB := Below.refl w242.heap.size w242
                have HSW := HS
                refine dp_ 0 (fun _ => Run.fieldAddr rfl rfl Try.underlying39 rfl (by kernel_rfl) rfl) ?_
                refine dp_ 2 (fun _ => Run.move rfl rfl) ?_
                refine dp_ 6 (fun _ => Run.fieldAddr rfl rfl Try.underlying39 rfl (by kernel_rfl) rfl) ?_
                refine dt_ 1 (Below.refl _ _) (fun w_ hw_ => Run.load rfl rfl Try.underlying23 rfl (box_cell ((HS.below hw_).mu 0 rfl) hc146)) ?_
                obtain ⟨⟨q243, q244⟩, H⟩ := if_some H
                obtain ⟨ad245, rfl⟩ := C_open (HS.getO 1 rfl) (by omega)
                refine dp_ 3 (fun _ => Run.indexAddr rfl rfl rfl Try.underlying23 (sz := 1) (by kernel_rfl) q243 q244) ?_
                obtain ⟨A246, c247, le248, HS⟩ := HS.slO 1 rfl i166 q243 q244
                refine dt_ 4 (Below.refl _ _) (fun w_ hw_ => Run.load rfl rfl Try.underlying25 rfl ((HS.below hw_).getO 1 rfl)) ?_
                refine dp_ 5 (fun _ => Run.len (ts := #[]) rfl Try.underlying25 rfl) ?_
                refine dt_ 7 (Below.refl _ _) (fun w_ hw_ => Run.load rfl rfl Try.underlying3 rfl (box_cell ((HS.below hw_).mu 0 rfl) (at39_0 (AtK.whole ((HS.below hw_).getO 5 rfl))).int)) ?_
                refine dp_ 8 (fun _ => Run.bin rfl rfl rfl bin_neq) ?_
                refine dp_ 9 (fun _ => Run.move rfl rfl) ?_
                by_cases c249 : ((x0.f4.getD i166.toNat []).length : Int) = x0.f0
                · rw [if_pos c249] at H
                  refine dg_ 10 (bne_eq_false_iff_eq.mpr c249) (fun _ => Run.fieldAddr rfl rfl Try.underlying39 rfl (by kernel_rfl) rfl) ?_
                  refine dg_ 12 (bne_eq_false_iff_eq.mpr c249) (fun _ => Run.move rfl rfl) ?_
                  refine dh_ 11 (bne_eq_false_iff_eq.mpr c249) (Below.refl _ _) (fun w_ hw_ => Run.load rfl rfl Try.underlying23 rfl (box_cell ((HS.below hw_).mu 0 rfl) hc146)) ?_
                  refine dg_ 13 (bne_eq_false_iff_eq.mpr c249) (fun _ => Run.indexAddr rfl rfl rfl Try.underlying23 (sz := 1) (by kernel_rfl) q243 q244) ?_
                  refine dh_ 14 (bne_eq_false_iff_eq.mpr c249) (Below.refl _ _) (fun w_ hw_ => Run.load rfl rfl Try.underlying25 rfl ((HS.below hw_).getO 1 rfl)) ?_
                  obtain ⟨t250, ha251, H⟩ := bind_some H
                  refine dc_ 15 (w_on rfl rfl rfl (bne_eq_false_iff_eq.mpr c249)) Try.func68 (spec_l05All.calls k236 A246 c247 (x0.f4.getD i166.toNat []) (-127) 127 t250 _ (HS.getO 0 rfl) le248 ha251) ?_
                  rintro _ w252 ⟨rfl, hb⟩
                  have hb := hb.below
                  replace HB := HB.trans (hb.mono HB.size)
                  replace HS := HS.below hb
                  refine ⟨HB, _, rfl, ?_⟩
                  clear hb
                  refine dg_ 16 (bne_eq_false_iff_eq.mpr c249) (fun _ => Run.not rfl rfl) ?_
                  refine dp_ 17 (fun _ => Run.pickF rfl rfl (bne_eq_false_iff_eq.mpr c249) rfl) ?_
                  refine WD.done (by kernel_rfl) ?_
                  clear HB HSW
                  refine WQ.via (fun _ _ h_ => h_) hK241 ?_
                  by_cases c253 : t250 = true
                  · rw [if_pos c253] at H
                    refine WC.no rfl (congrArg (fun b_ => !b_) c253) ?_
                    refine WC.skip ?_
                    refine WQ.via (fun _ _ h_ => h_) hK240 ?_
                    refine WC.region ?_
                    refine mv_ ?_
                    refine v_ (Run.bin rfl rfl rfl bin_add64) ?_
                    refine as_ ?_
                    refine WL.done ?_
                    exact WQ.round k236 (fun _ _ h_ => h_) (Nat.lt_succ_self _) ⟨(wrap64 (i166 + 1)), rfl, ⟨_, H, Ho165⟩, (St.pick HS (fun W_ h_ => ⟨AllF.get 2 rfl h_, AllF.get 3 rfl h_, AllF.get 4 rfl h_, AllF.get 5 rfl h_, trivial⟩) (fun W_ h_ => trivial))⟩ ⟨rfl, rfl, trivial⟩
                  · rw [if_neg c253] at H
                    refine WC.yes rfl (congrArg (fun b_ => !b_) (Bool.eq_false_iff.mpr c253)) ?_
                    refine WC.seq (fun K254 hK254 => ?_)
                    refine WC.region ?_
                    refine as_ ?_
                    refine WL.done ?_
                    refine WQ.via (fun _ _ h_ => h_) hK254 ?_
                    refine WC.ret ?_
                    obtain rfl := Option.some.inj H
                    rw [hG163] at Ho165
                    replace H : some _ = some _ := Ho165
                    obtain rfl := Option.some.inj H
                    refine WQ.fin (e' := .ret) (fn := Try.f24) (fun _ _ h_ => h_) (WQ.ret1 rfl rfl ?_)
                    exact hR_ _ _ ⟨rfl, HS.b⟩
                · rw [if_neg c249] at H
                  refine do_ (c' := true) 10 (bne_iff_ne.mpr c249) ?_
                  refine do_ (c' := true) 11 (bne_iff_ne.mpr c249) ?_
                  refine do_ (c' := true) 12 (bne_iff_ne.mpr c249) ?_
                  refine do_ (c' := true) 13 (bne_iff_ne.mpr c249) ?_
                  refine do_ (c' := true) 14 (bne_iff_ne.mpr c249) ?_
                  refine do_ (c' := true) 15 (bne_iff_ne.mpr c249) ?_
                  refine do_ (c' := true) 16 (bne_iff_ne.mpr c249) ?_
                  refine dp_ 17 (fun _ => Run.pickT rfl rfl (bne_iff_ne.mpr c249) rfl) ?_
                  refine WD.done (by kernel_rfl) ?_
                  clear HB HSW
                  refine WQ.via (fun _ _ h_ => h_) hK241 ?_
                  refine WC.yes rfl rfl ?_
                  refine WC.seq (fun K255 hK255 => ?_)
                  refine WC.region ?_
                  refine as_ ?_
                  refine WL.done ?_
                  refine WQ.via (fun _ _ h_ => h_) hK255 ?_
                  refine WC.ret ?_
                  obtain rfl := Option.some.inj H
                  rw [hG163] at Ho165
                  replace H : some _ = some _ := Ho165
                  obtain rfl := Option.some.inj H
                  refine WQ.fin (e' := .ret) (fn := Try.f24) (fun _ _ h_ => h_) (WQ.ret1 rfl rfl ?_)
                  exact hR_ _ _ ⟨rfl, HS.b⟩
              · rw [if_neg c239] at H
                refine WC.no rfl (decide_eq_false c239) ?_
                refine WC.exit ?_
                obtain rfl := Option.some.inj H
                exact WQ.via2 (fun _ _ h_ => h_) X167 ⟨i166, rfl, Ho165, (St.pick HS (fun W_ h_ => ⟨AllF.get 0 rfl h_, AllF.get 1 rfl h_, AllF.get 2 rfl h_, AllF.get 3 rfl h_, trivial⟩) (fun W_ h_ => trivial))⟩ ⟨rfl, rfl, trivial⟩
            · rw [if_neg c159] at H
              refine WC.yes rfl (congrArg (fun b_ => !b_) (Bool.eq_false_iff.mpr c159)) ?_
              refine WC.seq (fun K256 hK256 => ?_)
              refine WC.region ?_
              refine as_ ?_
              refine WL.done ?_
              refine WQ.via (fun _ _ h_ => h_) hK256 ?_
              refine WC.ret ?_
              obtain rfl := Option.some.inj H
              refine WQ.fin (e' := .ret) (fn := Try.f24) (fun _ _ h_ => h_) (WQ.ret1 rfl rfl ?_)
              exact hR_ _ _ ⟨rfl, HS.b⟩
          · rw [if_neg c151] at H
            refine do_ (c' := true) 29 (bne_iff_ne.mpr c151) ?_
            refine do_ (c' := true) 30 (bne_iff_ne.mpr c151) ?_
            refine do_ (c' := true) 31 (bne_iff_ne.mpr c151) ?_
            refine do_ (c' := true) 32 (bne_iff_ne.mpr c151) ?_
            refine do_ (c' := true) 33 (bne_iff_ne.mpr c151) ?_
            refine dp_ 34 (fun _ => Run.pickT rfl rfl (bne_iff_ne.mpr c151) rfl) ?_
            refine WD.done (by kernel_rfl) ?_
            clear HB HSW
            refine WQ.via (fun _ _ h_ => h_) hK5 ?_
            refine WC.yes rfl rfl ?_
            refine WC.seq (fun K257 hK257 => ?_)
            refine WC.region ?_
            refine as_ ?_
            refine WL.done ?_
            refine WQ.via (fun _ _ h_ => h_) hK257 ?_
            refine WC.ret ?_
            obtain rfl := Option.some.inj H
            refine WQ.fin (e' := .ret) (fn := Try.f24) (fun _ _ h_ => h_) (WQ.ret1 rfl rfl ?_)
            exact hR_ _ _ ⟨rfl, HS.b⟩
        · rw [if_neg c143] at H
          refine do_ (c' := true) 21 (congrArg (fun b_ => !b_) (Bool.eq_false_iff.mpr c143)) ?_
          refine do_ (c' := true) 22 (congrArg (fun b_ => !b_) (Bool.eq_false_iff.mpr c143)) ?_
          refine do_ (c' := true) 23 (congrArg (fun b_ => !b_) (Bool.eq_false_iff.mpr c143)) ?_
          refine do_ (c' := true) 24 (congrArg (fun b_ => !b_) (Bool.eq_false_iff.mpr c143)) ?_
          refine do_ (c' := true) 25 (congrArg (fun b_ => !b_) (Bool.eq_false_iff.mpr c143)) ?_
          refine do_ (c' := true) 26 (congrArg (fun b_ => !b_) (Bool.eq_false_iff.mpr c143)) ?_
          refine dp_ 27 (fun _ => Run.pickT rfl rfl (congrArg (fun b_ => !b_) (Bool.eq_false_iff.mpr c143)) rfl) ?_
          refine dp_ 28 (fun _ => Run.move rfl rfl) ?_
          refine do_ (c' := true) 29 rfl ?_
          refine do_ (c' := true) 30 rfl ?_
          refine do_ (c' := true) 31 rfl ?_
          refine do_ (c' := true) 32 rfl ?_
          refine do_ (c' := true) 33 rfl ?_
          refine dp_ 34 (fun _ => Run.pickT rfl rfl rfl rfl) ?_
          refine WD.done (by kernel_rfl) ?_
          clear HB HSW
          refine WQ.via (fun _ _ h_ => h_) hK5 ?_
          refine WC.yes rfl rfl ?_
          refine WC.seq (fun K258 hK258 => ?_)
          refine WC.region ?_
          refine as_ ?_
          refine WL.done ?_
          refine WQ.via (fun _ _ h_ => h_) hK258 ?_
          refine WC.ret ?_
          obtain rfl := Option.some.inj H
          refine WQ.fin (e' := .ret) (fn := Try.f24) (fun _ _ h_ => h_) (WQ.ret1 rfl rfl ?_)
          exact hR_ _ _ ⟨rfl, HS.b⟩
      · rw [if_neg c135] at H
        refine do_ (c' := true) 15 (bne_iff_ne.mpr c135) ?_
        refine do_ (c' := true) 16 (bne_iff_ne.mpr c135) ?_
        refine do_ (c' := true) 17 (bne_iff_ne.mpr c135) ?_
        refine do_ (c' := true) 18 (bne_iff_ne.mpr c135) ?_
        refine dp_ 19 (fun _ => Run.pickT rfl rfl (bne_iff_ne.mpr c135) rfl) ?_
        refine dp_ 20 (fun _ => Run.move rfl rfl) ?_
        refine do_ (c' := true) 21 rfl ?_
        refine do_ (c' := true) 22 rfl ?_
        refine do_ (c' := true) 23 rfl ?_
        refine do_ (c' := true) 24 rfl ?_
        refine do_ (c' := true) 25 rfl ?_
        refine do_ (c' := true) 26 rfl ?_
        refine dp_ 27 (fun _ => Run.pickT rfl rfl rfl rfl) ?_
        refine dp_ 28 (fun _ => Run.move rfl rfl) ?_
        refine do_ (c' := true) 29 rfl ?_
        refine do_ (c' := true) 30 rfl ?_
        refine do_ (c' := true) 31 rfl ?_
        refine do_ (c' := true) 32 rfl ?_
        refine do_ (c' := true) 33 rfl ?_
        refine dp_ 34 (fun _ => Run.pickT rfl rfl rfl rfl) ?_
        refine WD.done (by kernel_rfl) ?_
        clear HB HSW
        refine WQ.via (fun _ _ h_ => h_) hK5 ?_
        refine WC.yes rfl rfl ?_
        refine WC.seq (fun K259 hK259 => ?_)
        refine WC.region ?_
        refine as_ ?_
        refine WL.done ?_
        refine WQ.via (fun _ _ h_ => h_) hK259 ?_
        refine WC.ret ?_
        obtain rfl := Option.some.inj H
        refine WQ.fin (e' := .ret) (fn := Try.f24) (fun _ _ h_ => h_) (WQ.ret1 rfl rfl ?_)
        exact hR_ _ _ ⟨rfl, HS.b⟩
  · rw [if_neg c10] at H
    refine do_ (c' := true) 5 (congrArg (fun b_ => !b_) (Bool.eq_false_iff.mpr c10)) ?_
    refine do_ (c' := true) 6 (congrArg (fun b_ => !b_) (Bool.eq_false_iff.mpr c10)) ?_
    refine do_ (c' := true) 7 (congrArg (fun b_ => !b_) (Bool.eq_false_iff.mpr c10)) ?_
    refine do_ (c' := true) 8 (congrArg (fun b_ => !b_) (Bool.eq_false_iff.mpr c10)) ?_
    refine du_ 9 ?_
    refine du_ 10 ?_
    refine du_ 11 ?_
    refine do_ (c' := true) 12 (congrArg (fun b_ => !b_) (Bool.eq_false_iff.mpr c10)) ?_
    refine dp_ 13 (fun _ => Run.pickT rfl rfl (congrArg (fun b_ => !b_) (Bool.eq_false_iff.mpr c10)) rfl) ?_
    refine dp_ 14 (fun _ => Run.move rfl rfl) ?_
    refine do_ (c' := true) 15 rfl ?_
    refine do_ (c' := true) 16 rfl ?_
    refine do_ (c' := true) 17 rfl ?_
    refine do_ (c' := true) 18 rfl ?_
    refine dp_ 19 (fun _ => Run.pickT rfl rfl rfl rfl) ?_
    refine dp_ 20 (fun _ => Run.move rfl rfl) ?_
    refine do_ (c' := true) 21 rfl ?_
    refine do_ (c' := true) 22 rfl ?_
    refine do_ (c' := true) 23 rfl ?_
    refine do_ (c' := true) 24 rfl ?_
    refine do_ (c' := true) 25 rfl ?_
    refine do_ (c' := true) 26 rfl ?_
    refine dp_ 27 (fun _ => Run.pickT rfl rfl rfl rfl) ?_
    refine dp_ 28 (fun _ => Run.move rfl rfl) ?_
    refine do_ (c' := true) 29 rfl ?_
    refine do_ (c' := true) 30 rfl ?_
    refine do_ (c' := true) 31 rfl ?_
    refine do_ (c' := true) 32 rfl ?_
    refine do_ (c' := true) 33 rfl ?_
    refine dp_ 34 (fun _ => Run.pickT rfl rfl rfl rfl) ?_
    refine WD.done (by kernel_rfl) ?_
    clear HB HSW
    refine WQ.via (fun _ _ h_ => h_) hK5 ?_
    refine WC.yes rfl rfl ?_
    refine WC.seq (fun K260 hK260 => ?_)
    refine WC.region ?_
    refine as_ ?_
    refine WL.done ?_
    refine WQ.via (fun _ _ h_ => h_) hK260 ?_
    refine WC.ret ?_
    obtain rfl := Option.some.inj H
    refine WQ.fin (e' := .ret) (fn := Try.f24) (fun _ _ h_ => h_) (WQ.ret1 rfl rfl ?_)
    exact hR_ _ _ ⟨rfl, HS.b⟩
def impl_LayerOk.b0 (x0 : S48) (a1 : Int) (rec_ : Int → Option (Bool ⊕ Int)) (k99 : Nat) (i74 : Int) : Option (Bool ⊕ Int) := (if i74 < (4 : Int) then (if 0 ≤ i74 ∧ i74 < (4 : Int) then ((impl_withinBudget.f k99 ((([x0.f1, x0.f2, x0.f3, x0.f4]).getD i74.toNat o36).f0) ((([x0.f1, x0.f2, x0.f3, x0.f4]).getD i74.toNat o36).f1) ((([x0.f1, x0.f2, x0.f3, x0.f4]).getD i74.toNat o36).f2) ((([x0.f1, x0.f2, x0.f3, x0.f4]).getD i74.toNat o36).f3) ((([x0.f1, x0.f2, x0.f3, x0.f4]).getD i74.toNat o36).f4) a1 a1).bind fun t122 => (if t122 = true then (rec_ (wrap64 (i74 + 1))) else (some (Sum.inl false)))) else none) else (some (Sum.inr i74)))
def impl_LayerOk.l0 (x0 : S48) (a1 : Int) : Nat → Int → Option (Bool ⊕ Int)
  | 0, _ => none
  | k + 1, i74 => impl_LayerOk.b0 x0 a1 (impl_LayerOk.l0 x0 a1 k) k i74
def impl_LayerOk.g (k : Nat) (x0 : S48) (a1 : Int) : Option Bool := ((impl_GainOk.f x0.f0 a1).bind fun t15 => (if t15 = true then ((impl_GainOk.f x0.f5 a1).bind fun t23 => (if t23 = true then ((impl_isWidth.f (x0.f6.f1.length : Int)).bind fun t27 => (if t27 = true then ((impl_LayerOk.l0 x0 a1 k 0).bind (fun o97 => match o97 with | .inl r_ => some r_ | .inr i74 => ((impl_withinBudget.f k x0.f6.f0 x0.f6.f1 x0.f6.f2 x0.f6.f3 x0.f6.f4 a1 (x0.f6.f1.length : Int)).bind fun t82 => (if t82 = true then ((impl_withinBudget.f k x0.f7.f0 x0.f7.f1 x0.f7.f2 x0.f7.f3 x0.f7.f4 (x0.f6.f1.length : Int) a1).bind fun t94 => (some t94)) else (some false))))) else (some false))) else (some false))) else (some false)))
set_option maxHeartbeats 4000000 in
set_option maxRecDepth 20000 in
theorem impl_LayerOk.runs (k : Nat) (cs0 : List Value) (x0 : S48) (a1 : Int) (r : Bool) (w : World) (hk0 : k48.K w x0 cs0) (H : impl_LayerOk.g k x0 a1 = some r) :
    Calls Try.prog 22 #[.agg cs0.toArray, .int .i64 a1] w fun e w' => e = .returned (.bool r) ∧ Below w.heap.size w w' := by
  have el0 : cs0.length = 32 := k48.K_len hk0
  unfold impl_LayerOk.g at H
  have HS : St (fun _ => True) w w [] [(fun W => k48.K W x0 cs0)] [] := St.start (foot_cons (foot_K h48 hk0) foot_nil)
  refine calls_W Try.func22 rfl rfl (Nat.le_of_ble_eq_true rfl) (fun R_ hR_ => ?_)
  refine WC.seq (fun K1 hK1 => ?_)
  refine WC.region ?_
  refine WL.box HS rfl rfl (by decide) rfl rfl rfl (fun b2 w3 hb2 HS => ?_)
  refine as_ ?_
  refine WL.done ?_
  refine WQ.via (fun _ _ h_ => h_) hK1 ?_
  refine WC.seq (fun K4 hK4 => ?_)
  refine WC.region ?_
  refine v_ (Run.fieldAddr rfl rfl Try.underlying48 rfl (by kernel_rfl) rfl) ?_
  refine v_ (Run.fieldAddr rfl rfl Try.underlying36 rfl (by kernel_rfl) rfl) ?_
  obtain ⟨A5, c6, hc7, le8⟩ := (at48_23 (AtK.whole (HS.getO 0 rfl))).slice
  replace HS := HS.deriveO (p := (fun W => (Kd.slice 3 (Kd.int .i64)).C W A5 x0.f6.f1.length x0.f6.f1)) (fun W_ hO_ hN_ => (at48_23 (AtK.whole (AllF.get 0 rfl hO_))).C hc7)
  refine v_ (Run.load rfl rfl Try.underlying23 rfl (box_cell (HS.mu 0 rfl) hc7)) ?_
  refine v_ (Run.len (ts := #[]) rfl Try.underlying23 rfl) ?_
  refine as_ ?_
  refine WL.done ?_
  refine WQ.via (fun _ _ h_ => h_) hK4 ?_
  refine WC.seq (fun K9 hK9 => ?_)
  refine WC.seq (fun K10 hK10 => ?_)
  refine WC.region ?_
  refine v_ (Run.fieldAddr rfl rfl Try.underlying48 rfl (by kernel_rfl) rfl) ?_
  obtain ⟨A11, c12, hc13, le14⟩ := (at48_0 (AtK.whole (HS.getO 1 rfl))).slice
  replace HS := HS.deriveO (p := (fun W => (Kd.int .i64).C W A11 x0.f0.length x0.f0)) (fun W_ hO_ hN_ => (at48_0 (AtK.whole (AllF.get 1 rfl hO_))).C hc13)
  refine v_ (Run.load rfl rfl Try.underlying25 rfl (box_cell (HS.mu 0 rfl) hc13)) ?_
  refine mv_ ?_
  obtain ⟨t15, ha16, H⟩ := bind_some H
  refine c_ Try.func28 (impl_GainOk.calls A11 c12 x0.f0 a1 t15 _ (HS.getO 0 rfl) le14 ha16) ?_
  rintro _ w17 ⟨rfl, hb⟩
  replace HS := HS.below hb
  refine ⟨_, rfl, ?_⟩
  clear hb
  refine v_ (Run.not rfl rfl) ?_
  refine mv_ ?_
  by_cases c18 : t15 = true
  · rw [if_pos c18] at H
    refine on_ (congrArg (fun b_ => !b_) c18) ?_
    refine v_ (Run.fieldAddr rfl rfl Try.underlying48 rfl (by kernel_rfl) rfl) ?_
    refine on_ (congrArg (fun b_ => !b_) c18) ?_
    obtain ⟨A19, c20, hc21, le22⟩ := (at48_21 (AtK.whole (HS.getO 2 rfl))).slice
    replace HS := HS.deriveO (p := (fun W => (Kd.int .i64).C W A19 x0.f5.length x0.f5)) (fun W_ hO_ hN_ => (at48_21 (AtK.whole (AllF.get 2 rfl hO_))).C hc21)
    refine v_ (Run.load rfl rfl Try.underlying25 rfl (box_cell (HS.mu 0 rfl) hc21)) ?_
    refine on_ (congrArg (fun b_ => !b_) c18) ?_
    refine mv_ ?_
    refine on_ (congrArg (fun b_ => !b_) c18) ?_
    obtain ⟨t23, ha24, H⟩ := bind_some H
    refine c_ Try.func28 (impl_GainOk.calls A19 c20 x0.f5 a1 t23 _ (HS.getO 0 rfl) le22 ha24) ?_
    rintro _ w25 ⟨rfl, hb⟩
    replace HS := HS.below hb
    refine ⟨_, rfl, ?_⟩
    clear hb
    refine on_ (congrArg (fun b_ => !b_) c18) ?_
    refine v_ (Run.not rfl rfl) ?_
    refine v_ (Run.pickF rfl rfl (congrArg (fun b_ => !b_) c18) rfl) ?_
    refine mv_ ?_
    by_cases c26 : t23 = true
    · rw [if_pos c26] at H
      refine on_ (congrArg (fun b_ => !b_) c26) ?_
      refine mv_ ?_
      refine on_ (congrArg (fun b_ => !b_) c26) ?_
      obtain ⟨t27, ha28, H⟩ := bind_some H
      refine c_ Try.func64 (impl_isWidth.calls (x0.f6.f1.length : Int) t27 _ ha28) ?_
      rintro _ w29 ⟨rfl, hb⟩
      have hb := hb.below
      replace HS := HS.below hb
      refine ⟨_, rfl, ?_⟩
      clear hb
      refine on_ (congrArg (fun b_ => !b_) c26) ?_
      refine v_ (Run.not rfl rfl) ?_
      refine v_ (Run.pickF rfl rfl (congrArg (fun b_ => !b_) c26) rfl) ?_
      refine WL.done ?_
      refine WQ.via (fun _ _ h_ => h_) hK10 ?_
      by_cases c30 : t27 = true
      · rw [if_pos c30] at H
        refine WC.no rfl (congrArg (fun b_ => !b_) c30) ?_
        refine WC.skip ?_
        refine WQ.via (fun _ _ h_ => h_) hK9 ?_
        refine WC.seq (fun K31 hK31 => ?_)
        refine WC.seq (fun K32 hK32 => ?_)
        refine WC.region ?_
        refine v_ (Run.fieldAddr rfl rfl Try.underlying48 rfl (by kernel_rfl) rfl) ?_
        obtain ⟨A33, c34, hc35, le36⟩ := (at48_2 (AtK.whole (HS.getO 3 rfl))).slice
        replace HS := HS.deriveO (p := (fun W => (Kd.slice 3 (Kd.int .i64)).C W A33 x0.f1.f1.length x0.f1.f1)) (fun W_ hO_ hN_ => (at48_2 (AtK.whole (AllF.get 3 rfl hO_))).C hc35)
        obtain ⟨A37, c38, hc39, le40⟩ := (at48_3 (AtK.whole (HS.getO 4 rfl))).slice
        replace HS := HS.deriveO (p := (fun W => (Kd.slice 3 (Kd.int .i64)).C W A37 x0.f1.f2.length x0.f1.f2)) (fun W_ hO_ hN_ => (at48_3 (AtK.whole (AllF.get 4 rfl hO_))).C hc39)
        refine v_ (Run.loadS (cs := [.int .i64 x0.f1.f0, .slice A33 x0.f1.f1.length c34, .slice A37 x0.f1.f2.length c38, .int .i64 x0.f1.f3, .int .i64 x0.f1.f4]) rfl rfl Try.underlying36 rfl (by kernel_rfl) (box_part (HS.mu 0 rfl) (part_cons (at48_1 (AtK.whole (HS.getO 5 rfl))).int (part_cons hc35 (part_cons hc39 (part_cons (at48_4 (AtK.whole (HS.getO 5 rfl))).int (part_cons (at48_5 (AtK.whole (HS.getO 5 rfl))).int part_nil))))))) ?_
        refine v_ (Run.fieldAddr rfl rfl Try.underlying48 rfl (by kernel_rfl) rfl) ?_
        obtain ⟨A41, c42, hc43, le44⟩ := (at48_7 (AtK.whole (HS.getO 5 rfl))).slice
        replace HS := HS.deriveO (p := (fun W => (Kd.slice 3 (Kd.int .i64)).C W A41 x0.f2.f1.length x0.f2.f1)) (fun W_ hO_ hN_ => (at48_7 (AtK.whole (AllF.get 5 rfl hO_))).C hc43)
        obtain ⟨A45, c46, hc47, le48⟩ := (at48_8 (AtK.whole (HS.getO 6 rfl))).slice
        replace HS := HS.deriveO (p := (fun W => (Kd.slice 3 (Kd.int .i64)).C W A45 x0.f2.f2.length x0.f2.f2)) (fun W_ hO_ hN_ => (at48_8 (AtK.whole (AllF.get 6 rfl hO_))).C hc47)
        refine v_ (Run.loadS (cs := [.int .i64 x0.f2.f0, .slice A41 x0.f2.f1.length c42, .slice A45 x0.f2.f2.length c46, .int .i64 x0.f2.f3, .int .i64 x0.f2.f4]) rfl rfl Try.underlying36 rfl (by kernel_rfl) (box_part (HS.mu 0 rfl) (part_cons (at48_6 (AtK.whole (HS.getO 7 rfl))).int (part_cons hc43 (part_cons hc47 (part_cons (at48_9 (AtK.whole (HS.getO 7 rfl))).int (part_cons (at48_10 (AtK.whole (HS.getO 7 rfl))).int part_nil))))))) ?_
        refine v_ (Run.fieldAddr rfl rfl Try.underlying48 rfl (by kernel_rfl) rfl) ?_
        obtain ⟨A49, c50, hc51, le52⟩ := (at48_12 (AtK.whole (HS.getO 7 rfl))).slice
        replace HS := HS.deriveO (p := (fun W => (Kd.slice 3 (Kd.int .i64)).C W A49 x0.f3.f1.length x0.f3.f1)) (fun W_ hO_ hN_ => (at48_12 (AtK.whole (AllF.get 7 rfl hO_))).C hc51)
        obtain ⟨A53, c54, hc55, le56⟩ := (at48_13 (AtK.whole (HS.getO 8 rfl))).slice
        replace HS := HS.deriveO (p := (fun W => (Kd.slice 3 (Kd.int .i64)).C W A53 x0.f3.f2.length x0.f3.f2)) (fun W_ hO_ hN_ => (at48_13 (AtK.whole (AllF.get 8 rfl hO_))).C hc55)
        refine v_ (Run.loadS (cs := [.int .i64 x0.f3.f0, .slice A49 x0.f3.f1.length c50, .slice A53 x0.f3.f2.length c54, .int .i64 x0.f3.f3, .int .i64 x0.f3.f4]) rfl rfl Try.underlying36 rfl (by kernel_rfl) (box_part (HS.mu 0 rfl) (part_cons (at48_11 (AtK.whole (HS.getO 9 rfl))).int (part_cons hc51 (part_cons hc55 (part_cons (at48_14 (AtK.whole (HS.getO 9 rfl))).int (part_cons (at48_15 (AtK.whole (HS.getO 9 rfl))).int part_nil))))))) ?_
        refine v_ (Run.fieldAddr rfl rfl Try.underlying48 rfl (by kernel_rfl) rfl) ?_
        obtain ⟨A57, c58, hc59, le60⟩ := (at48_17 (AtK.whole (HS.getO 9 rfl))).slice
        replace HS := HS.deriveO (p := (fun W => (Kd.slice 3 (Kd.int .i64)).C W A57 x0.f4.f1.length x0.f4.f1)) (fun W_ hO_ hN_ => (at48_17 (AtK.whole (AllF.get 9 rfl hO_))).C hc59)
        obtain ⟨A61, c62, hc63, le64⟩ := (at48_18 (AtK.whole (HS.getO 10 rfl))).slice
        replace HS := HS.deriveO (p := (fun W => (Kd.slice 3 (Kd.int .i64)).C W A61 x0.f4.f2.length x0.f4.f2)) (fun W_ hO_ hN_ => (at48_18 (AtK.whole (AllF.get 10 rfl hO_))).C hc63)
        refine v_ (Run.loadS (cs := [.int .i64 x0.f4.f0, .slice A57 x0.f4.f1.length c58, .slice A61 x0.f4.f2.length c62, .int .i64 x0.f4.f3, .int .i64 x0.f4.f4]) rfl rfl Try.underlying36 rfl (by kernel_rfl) (box_part (HS.mu 0 rfl) (part_cons (at48_16 (AtK.whole (HS.getO 11 rfl))).int (part_cons hc59 (part_cons hc63 (part_cons (at48_19 (AtK.whole (HS.getO 11 rfl))).int (part_cons (at48_20 (AtK.whole (HS.getO 11 rfl))).int part_nil))))))) ?_
        refine WL.litN HS (sz := 5) (z := (.agg #[.int .i64 0, .slice none 0 0, .slice none 0 0, .int .i64 0, .int .i64 0])) rfl rfl (by decide) rfl [[.int .i64 x0.f1.f0, .slice A33 x0.f1.f1.length c34, .slice A37 x0.f1.f2.length c38, .int .i64 x0.f1.f3, .int .i64 x0.f1.f4], [.int .i64 x0.f2.f0, .slice A41 x0.f2.f1.length c42, .slice A45 x0.f2.f2.length c46, .int .i64 x0.f2.f3, .int .i64 x0.f2.f4], [.int .i64 x0.f3.f0, .slice A49 x0.f3.f1.length c50, .slice A53 x0.f3.f2.length c54, .int .i64 x0.f3.f3, .int .i64 x0.f3.f4], [.int .i64 x0.f4.f0, .slice A57 x0.f4.f1.length c58, .slice A61 x0.f4.f2.length c62, .int .i64 x0.f4.f3, .int .i64 x0.f4.f4]] ⟨⟨rfl, _, rfl, rfl, rfl⟩, ⟨⟨rfl, _, rfl, rfl, rfl⟩, ⟨⟨rfl, _, rfl, rfl, rfl⟩, ⟨⟨rfl, _, rfl, rfl, rfl⟩, trivial⟩⟩⟩⟩ rfl Try.underlying87 (by kernel_rfl) (by decide) (by decide) (fun v65 w66 HS => ?_)
        replace HS := HS.deriveO (p := (fun W => Reps (k36.K W) k36.sz [x0.f1, x0.f2, x0.f3, x0.f4] (List.flatten [[.int .i64 x0.f1.f0, .slice A33 x0.f1.f1.length c34, .slice A37 x0.f1.f2.length c38, .int .i64 x0.f1.f3, .int .i64 x0.f1.f4], [.int .i64 x0.f2.f0, .slice A41 x0.f2.f1.length c42, .slice A45 x0.f2.f2.length c46, .int .i64 x0.f2.f3, .int .i64 x0.f2.f4], [.int .i64 x0.f3.f0, .slice A49 x0.f3.f1.length c50, .slice A53 x0.f3.f2.length c54, .int .i64 x0.f3.f3, .int .i64 x0.f3.f4], [.int .i64 x0.f4.f0, .slice A57 x0.f4.f1.length c58, .slice A61 x0.f4.f2.length c62, .int .i64 x0.f4.f3, .int .i64 x0.f4.f4]]))) (fun W_ hO_ hN_ => reps_lit ⟨(k36_mk _ x0.f1 (le36) (AllF.get 7 rfl hO_) (le40) (AllF.get 6 rfl hO_)), ⟨(k36_mk _ x0.f2 (le44) (AllF.get 5 rfl hO_) (le48) (AllF.get 4 rfl hO_)), ⟨(k36_mk _ x0.f3 (le52) (AllF.get 3 rfl hO_) (le56) (AllF.get 2 rfl hO_)), ⟨(k36_mk _ x0.f4 (le60) (AllF.get 1 rfl hO_) (le64) (AllF.get 0 rfl hO_)), trivial⟩⟩⟩⟩)
        obtain ⟨A67, c68, rfl⟩ := row_slice (HS.mu 0 rfl)
        refine v_ (Run.len (ts := #[]) rfl Try.underlying87 rfl) ?_
        refine mv_ ?_
        refine WL.done ?_
        refine WQ.via (fun _ _ h_ => h_) hK32 ?_
        refine WC.block ?_
        have le69 := row_le (HS.mu 0 rfl)
        replace HS := HS.freezeO 0 (p := (fun W => k36.C W A67 4 ([x0.f1, x0.f2, x0.f3, x0.f4]))) rfl (fun W_ hm_ h_ => row_C (by simp) hm_ (AllF.get 0 rfl h_))
        obtain ⟨G70, hG71, o72, H, Ho73⟩ := open_G H
        have X75 : ∀ E_ W_, (∃ (i74 : Int), E_ = [(1, .int .i64 a1), (2, .pointer (some ⟨b2, 0, none⟩)), (5, .int .i64 (x0.f6.f1.length : Int)), (37, .slice A67 4 c68), (38, .int .i64 (4 : Int)), (39, .int .i64 i74)] ∧ G70 (Sum.inr i74) = some r ∧ St (fun _ => True) w W_ [boxM b2 cs0.toArray 48] [(fun W => k36.C W A67 4 ([x0.f1, x0.f2, x0.f3, x0.f4])), (fun W => (Kd.slice 3 (Kd.int .i64)).C W A61 x0.f4.f2.length x0.f4.f2), (fun W => (Kd.slice 3 (Kd.int .i64)).C W A57 x0.f4.f1.length x0.f4.f1), (fun W => (Kd.slice 3 (Kd.int .i64)).C W A53 x0.f3.f2.length x0.f3.f2), (fun W => (Kd.slice 3 (Kd.int .i64)).C W A49 x0.f3.f1.length x0.f3.f1), (fun W => (Kd.slice 3 (Kd.int .i64)).C W A45 x0.f2.f2.length x0.f2.f2), (fun W => (Kd.slice 3 (Kd.int .i64)).C W A41 x0.f2.f1.length x0.f2.f1), (fun W => (Kd.slice 3 (Kd.int .i64)).C W A37 x0.f1.f2.length x0.f1.f2), (fun W => (Kd.slice 3 (Kd.int .i64)).C W A33 x0.f1.f1.length x0.f1.f1), (fun W => (Kd.int .i64).C W A19 x0.f5.length x0.f5), (fun W => (Kd.int .i64).C W A11 x0.f0.length x0.f0), (fun W => (Kd.slice 3 (Kd.int .i64)).C W A5 x0.f6.f1.length x0.f6.f1), (fun W => k48.K W x0 cs0)] []) → ∀ a, Fits a 61 E_ → K31 a W_ := by
          rintro E_ w76 ⟨i74, rfl, H, HS⟩
          rw [hG71] at H
          (try dsimp only at H)
          refine hK31 _ _ ?_
          refine WC.seq (fun K77 hK77 => ?_)
          refine WC.region ?_
          refine v_ (Run.fieldAddr rfl rfl Try.underlying48 rfl (by kernel_rfl) rfl) ?_
          obtain ⟨A78, c79, hc80, le81⟩ := (at48_24 (AtK.whole (HS.getO 12 rfl))).slice
          replace HS := HS.deriveO (p := (fun W => (Kd.slice 3 (Kd.int .i64)).C W A78 x0.f6.f2.length x0.f6.f2)) (fun W_ hO_ hN_ => (at48_24 (AtK.whole (AllF.get 12 rfl hO_))).C hc80)
          refine v_ (Run.loadS (cs := [.int .i64 x0.f6.f0, .slice A5 x0.f6.f1.length c6, .slice A78 x0.f6.f2.length c79, .int .i64 x0.f6.f3, .int .i64 x0.f6.f4]) rfl rfl Try.underlying36 rfl (by kernel_rfl) (box_part (HS.mu 0 rfl) (part_cons (at48_22 (AtK.whole (HS.getO 13 rfl))).int (part_cons hc7 (part_cons hc80 (part_cons (at48_25 (AtK.whole (HS.getO 13 rfl))).int (part_cons (at48_26 (AtK.whole (HS.getO 13 rfl))).int part_nil))))))) ?_
          refine mv_ ?_
          refine mv_ ?_
          obtain ⟨t82, ha83, H⟩ := bind_some H
          refine c_ Try.func65 (impl_withinBudget.calls k x0.f6.f0 A5 c6 x0.f6.f1 A78 c79 x0.f6.f2 x0.f6.f3 x0.f6.f4 a1 (x0.f6.f1.length : Int) t82 _ (HS.getO 12 rfl) le8 (HS.getO 0 rfl) le81 ha83) ?_
          rintro _ w84 ⟨rfl, hb⟩
          replace HS := HS.below hb
          refine ⟨_, rfl, ?_⟩
          clear hb
          refine mv_ ?_
          by_cases c85 : t82 = true
          · rw [if_pos c85] at H
            refine on_ c85 ?_
            refine v_ (Run.fieldAddr rfl rfl Try.underlying48 rfl (by kernel_rfl) rfl) ?_
            refine on_ c85 ?_
            obtain ⟨A86, c87, hc88, le89⟩ := (at48_28 (AtK.whole (HS.getO 13 rfl))).slice
            replace HS := HS.deriveO (p := (fun W => (Kd.slice 3 (Kd.int .i64)).C W A86 x0.f7.f1.length x0.f7.f1)) (fun W_ hO_ hN_ => (at48_28 (AtK.whole (AllF.get 13 rfl hO_))).C hc88)
            obtain ⟨A90, c91, hc92, le93⟩ := (at48_29 (AtK.whole (HS.getO 14 rfl))).slice
            replace HS := HS.deriveO (p := (fun W => (Kd.slice 3 (Kd.int .i64)).C W A90 x0.f7.f2.length x0.f7.f2)) (fun W_ hO_ hN_ => (at48_29 (AtK.whole (AllF.get 14 rfl hO_))).C hc92)
            refine v_ (Run.loadS (cs := [.int .i64 x0.f7.f0, .slice A86 x0.f7.f1.length c87, .slice A90 x0.f7.f2.length c91, .int .i64 x0.f7.f3, .int .i64 x0.f7.f4]) rfl rfl Try.underlying36 rfl (by kernel_rfl) (box_part (HS.mu 0 rfl) (part_cons (at48_27 (AtK.whole (HS.getO 15 rfl))).int (part_cons hc88 (part_cons hc92 (part_cons (at48_30 (AtK.whole (HS.getO 15 rfl))).int (part_cons (at48_31 (AtK.whole (HS.getO 15 rfl))).int part_nil))))))) ?_
            refine on_ c85 ?_
            refine mv_ ?_
            refine on_ c85 ?_
            refine mv_ ?_
            refine on_ c85 ?_
            obtain ⟨t94, ha95, H⟩ := bind_some H
            refine c_ Try.func65 (impl_withinBudget.calls k x0.f7.f0 A86 c87 x0.f7.f1 A90 c91 x0.f7.f2 x0.f7.f3 x0.f7.f4 (x0.f6.f1.length : Int) a1 t94 _ (HS.getO 1 rfl) le89 (HS.getO 0 rfl) le93 ha95) ?_
            rintro _ w96 ⟨rfl, hb⟩
            replace HS := HS.below hb
            refine ⟨_, rfl, ?_⟩
            clear hb
            refine v_ (Run.pickT rfl rfl c85 rfl) ?_
            refine as_ ?_
            refine WL.done ?_
            refine WQ.via (fun _ _ h_ => h_) hK77 ?_
            refine WC.ret ?_
            obtain rfl := Option.some.inj H
            refine WQ.fin (e' := .ret) (fn := Try.f22) (fun _ _ h_ => h_) (WQ.ret1 rfl rfl ?_)
            exact hR_ _ _ ⟨rfl, HS.b⟩
          · rw [if_neg c85] at H
            refine off_ (c' := false) (Bool.eq_false_iff.mpr c85) ?_
            refine WL.know 54 (Bool.eq_false_iff.mpr c85) ?_
            refine fast_ ?_
            refine WQ.via (fun _ _ h_ => h_) hK77 ?_
            refine WC.ret ?_
            obtain rfl := Option.some.inj H
            refine WQ.fin (e' := .ret) (fn := Try.f22) (fun _ _ h_ => h_) (WQ.ret1 rfl rfl ?_)
            exact hR_ _ _ ⟨rfl, HS.b⟩
        refine WC.loop (fun k_ E_ W_ => ∃ (i74 : Int), E_ = [(1, .int .i64 a1), (2, .pointer (some ⟨b2, 0, none⟩)), (5, .int .i64 (x0.f6.f1.length : Int)), (37, .slice A67 4 c68), (38, .int .i64 (4 : Int)), (39, .int .i64 i74)] ∧ (∃ o_, impl_LayerOk.l0 x0 a1 k_ i74 = some o_ ∧ G70 o_ = some r) ∧ St (fun _ => True) w W_ [boxM b2 cs0.toArray 48] [(fun W => k36.C W A67 4 ([x0.f1, x0.f2, x0.f3, x0.f4])), (fun W => (Kd.slice 3 (Kd.int .i64)).C W A61 x0.f4.f2.length x0.f4.f2), (fun W => (Kd.slice 3 (Kd.int .i64)).C W A57 x0.f4.f1.length x0.f4.f1), (fun W => (Kd.slice 3 (Kd.int .i64)).C W A53 x0.f3.f2.length x0.f3.f2), (fun W => (Kd.slice 3 (Kd.int .i64)).C W A49 x0.f3.f1.length x0.f3.f1), (fun W => (Kd.slice 3 (Kd.int .i64)).C W A45 x0.f2.f2.length x0.f2.f2), (fun W => (Kd.slice 3 (Kd.int .i64)).C W A41 x0.f2.f1.length x0.f2.f1), (fun W => (Kd.slice 3 (Kd.int .i64)).C W A37 x0.f1.f2.length x0.f1.f2), (fun W => (Kd.slice 3 (Kd.int .i64)).C W A33 x0.f1.f1.length x0.f1.f1), (fun W => (Kd.int .i64).C W A19 x0.f5.length x0.f5), (fun W => (Kd.int .i64).C W A11 x0.f0.length x0.f0), (fun W => (Kd.slice 3 (Kd.int .i64)).C W A5 x0.f6.f1.length x0.f6.f1), (fun W => k48.K W x0 cs0)] []) k ⟨0, rfl, ⟨_, H, Ho73⟩, (St.pick HS (fun W_ h_ => ⟨AllF.get 0 rfl h_, AllF.get 2 rfl h_, AllF.get 3 rfl h_, AllF.get 4 rfl h_, AllF.get 5 rfl h_, AllF.get 6 rfl h_, AllF.get 7 rfl h_, AllF.get 8 rfl h_, AllF.get 9 rfl h_, AllF.get 10 rfl h_, AllF.get 11 rfl h_, AllF.get 12 rfl h_, AllF.get 13 rfl h_, trivial⟩) (fun W_ h_ => trivial))⟩ ⟨rfl, rfl, rfl, rfl, rfl, rfl, trivial⟩ ?_
        rintro k_ E_ w98 ⟨i74, rfl, ⟨o72, H, Ho73⟩, HS⟩
        rcases k_ with _ | k99
        · exact (Option.some_ne_none _ (show none = some _ from H).symm).elim
        replace H : impl_LayerOk.b0 x0 a1 (impl_LayerOk.l0 x0 a1 k99) k99 i74 = some o72 := H
        unfold impl_LayerOk.b0 at H
        refine WC.seq (fun K100 hK100 => ?_)
        refine WC.region ?_
        refine v_ (Run.bin rfl rfl rfl bin_lss) ?_
        refine WL.done ?_
        refine WQ.via (fun _ _ h_ => h_) hK100 ?_
        refine WC.seq (fun K101 hK101 => ?_)
        by_cases c102 : i74 < (4 : Int)
        · rw [if_pos c102] at H
          refine WC.yes rfl (decide_eq_true c102) ?_
          refine WC.skip ?_
          refine WQ.via (fun _ _ h_ => h_) hK101 ?_
          refine WC.seq (fun K103 hK103 => ?_)
          refine WC.block ?_
          refine WC.seq (fun K104 hK104 => ?_)
          refine WC.region ?_
          obtain ⟨⟨q105, q106⟩, H⟩ := if_some H
          obtain ⟨ad107, rfl⟩ := C_open (HS.getO 0 rfl) (by omega)
          refine v_ (Run.indexAddr rfl rfl rfl Try.underlying87 (sz := 5) (by kernel_rfl) q105 q106) ?_
          obtain ⟨e108, el109, HS⟩ := HS.elO 0 rfl (by decide) o36 i74 q105 q106
          obtain ⟨A110, c111, hc112, le113⟩ := (at36_1 (AtK.whole (HS.getO 0 rfl).1)).slice
          replace HS := HS.deriveO (p := (fun W => (Kd.slice 3 (Kd.int .i64)).C W A110 (([x0.f1, x0.f2, x0.f3, x0.f4]).getD i74.toNat o36).f1.length (([x0.f1, x0.f2, x0.f3, x0.f4]).getD i74.toNat o36).f1)) (fun W_ hO_ hN_ => (at36_1 (AtK.whole (AllF.get 0 rfl hO_).1)).C hc112)
          obtain ⟨A114, c115, hc116, le117⟩ := (at36_2 (AtK.whole (HS.getO 1 rfl).1)).slice
          replace HS := HS.deriveO (p := (fun W => (Kd.slice 3 (Kd.int .i64)).C W A114 (([x0.f1, x0.f2, x0.f3, x0.f4]).getD i74.toNat o36).f2.length (([x0.f1, x0.f2, x0.f3, x0.f4]).getD i74.toNat o36).f2)) (fun W_ hO_ hN_ => (at36_2 (AtK.whole (AllF.get 1 rfl hO_).1)).C hc116)
          refine v_ (Run.loadS (cs := [.int .i64 ((([x0.f1, x0.f2, x0.f3, x0.f4]).getD i74.toNat o36).f0), .slice A110 ((([x0.f1, x0.f2, x0.f3, x0.f4]).getD i74.toNat o36).f1.length) c111, .slice A114 ((([x0.f1, x0.f2, x0.f3, x0.f4]).getD i74.toNat o36).f2.length) c115, .int .i64 ((([x0.f1, x0.f2, x0.f3, x0.f4]).getD i74.toNat o36).f3), .int .i64 ((([x0.f1, x0.f2, x0.f3, x0.f4]).getD i74.toNat o36).f4)]) rfl rfl Try.underlying36 rfl (by kernel_rfl) (cells_part (HS.getO 2 rfl).2 (part_cons (at36_0 (AtK.whole (HS.getO 2 rfl).1)).int (part_cons hc112 (part_cons hc116 (part_cons (at36_3 (AtK.whole (HS.getO 2 rfl).1)).int (part_cons (at36_4 (AtK.whole (HS.getO 2 rfl).1)).int part_nil))))))) ?_
          refine WL.alloc HS (v := .agg #[.int .i64 0, .slice none 0 0, .slice none 0 0, .int .i64 0, .int .i64 0]) (cs := #[.int .i64 0, .slice none 0 0, .slice none 0 0, .int .i64 0, .int .i64 0]) rfl rfl (by decide) rfl (by kernel_rfl) rfl (fun b118 w119 hb118 HS => ?_)
          refine WL.storeS HS 0 (vs := [.int .i64 ((([x0.f1, x0.f2, x0.f3, x0.f4]).getD i74.toNat o36).f0), .slice A110 ((([x0.f1, x0.f2, x0.f3, x0.f4]).getD i74.toNat o36).f1.length) c111, .slice A114 ((([x0.f1, x0.f2, x0.f3, x0.f4]).getD i74.toNat o36).f2.length) c115, .int .i64 ((([x0.f1, x0.f2, x0.f3, x0.f4]).getD i74.toNat o36).f3), .int .i64 ((([x0.f1, x0.f2, x0.f3, x0.f4]).getD i74.toNat o36).f4)]) rfl rfl rfl rfl rfl rfl (one_cons rfl (one_cons rfl (one_cons rfl (one_cons rfl (one_cons rfl one_nil))))) (by kernel_rfl) (Nat.le_of_ble_eq_true rfl) (cs' := #[.int .i64 ((([x0.f1, x0.f2, x0.f3, x0.f4]).getD i74.toNat o36).f0), .slice A110 ((([x0.f1, x0.f2, x0.f3, x0.f4]).getD i74.toNat o36).f1.length) c111, .slice A114 ((([x0.f1, x0.f2, x0.f3, x0.f4]).getD i74.toNat o36).f2.length) c115, .int .i64 ((([x0.f1, x0.f2, x0.f3, x0.f4]).getD i74.toNat o36).f3), .int .i64 ((([x0.f1, x0.f2, x0.f3, x0.f4]).getD i74.toNat o36).f4)]) (by kernel_rfl) (fun w120 HS => ?_)
          refine WL.done ?_
          refine WQ.via (fun _ _ h_ => h_) hK104 ?_
          refine WC.seq (fun K121 hK121 => ?_)
          refine WC.region ?_
          refine v_ (Run.loadS (cs := [.int .i64 ((([x0.f1, x0.f2, x0.f3, x0.f4]).getD i74.toNat o36).f0), .slice A110 ((([x0.f1, x0.f2, x0.f3, x0.f4]).getD i74.toNat o36).f1.length) c111, .slice A114 ((([x0.f1, x0.f2, x0.f3, x0.f4]).getD i74.toNat o36).f2.length) c115, .int .i64 ((([x0.f1, x0.f2, x0.f3, x0.f4]).getD i74.toNat o36).f3), .int .i64 ((([x0.f1, x0.f2, x0.f3, x0.f4]).getD i74.toNat o36).f4)]) rfl rfl Try.underlying36 rfl (by kernel_rfl) (box_part (HS.mu 0 rfl) part_all)) ?_
          refine mv_ ?_
          refine mv_ ?_
          obtain ⟨t122, ha123, H⟩ := bind_some H
          refine c_ Try.func65 (impl_withinBudget.calls k99 ((([x0.f1, x0.f2, x0.f3, x0.f4]).getD i74.toNat o36).f0) A110 c111 ((([x0.f1, x0.f2, x0.f3, x0.f4]).getD i74.toNat o36).f1) A114 c115 ((([x0.f1, x0.f2, x0.f3, x0.f4]).getD i74.toNat o36).f2) ((([x0.f1, x0.f2, x0.f3, x0.f4]).getD i74.toNat o36).f3) ((([x0.f1, x0.f2, x0.f3, x0.f4]).getD i74.toNat o36).f4) a1 a1 t122 _ (HS.getO 1 rfl) le113 (HS.getO 0 rfl) le117 ha123) ?_
          rintro _ w124 ⟨rfl, hb⟩
          replace HS := HS.below hb
          refine ⟨_, rfl, ?_⟩
          clear hb
          refine v_ (Run.not rfl rfl) ?_
          refine WL.done ?_
          refine WQ.via (fun _ _ h_ => h_) hK121 ?_
          by_cases c125 : t122 = true
          · rw [if_pos c125] at H
            refine WC.no rfl (congrArg (fun b_ => !b_) c125) ?_
            refine WC.skip ?_
            refine WQ.via (fun _ _ h_ => h_) hK103 ?_
            refine WC.region ?_
            refine v_ (Run.bin rfl rfl rfl bin_add64) ?_
            refine mv_ ?_
            refine WL.done ?_
            exact WQ.round k99 (fun _ _ h_ => h_) (Nat.lt_succ_self _) ⟨(wrap64 (i74 + 1)), rfl, ⟨_, H, Ho73⟩, (St.pick (St.forget HS 0 rfl) (fun W_ h_ => ⟨AllF.get 3 rfl h_, AllF.get 4 rfl h_, AllF.get 5 rfl h_, AllF.get 6 rfl h_, AllF.get 7 rfl h_, AllF.get 8 rfl h_, AllF.get 9 rfl h_, AllF.get 10 rfl h_, AllF.get 11 rfl h_, AllF.get 12 rfl h_, AllF.get 13 rfl h_, AllF.get 14 rfl h_, AllF.get 15 rfl h_, trivial⟩) (fun W_ h_ => trivial))⟩ ⟨rfl, rfl, rfl, rfl, rfl, rfl, trivial⟩
          · rw [if_neg c125] at H
            refine WC.yes rfl (congrArg (fun b_ => !b_) (Bool.eq_false_iff.mpr c125)) ?_
            refine WC.seq (fun K126 hK126 => ?_)
            refine WC.region ?_
            refine as_ ?_
            refine WL.done ?_
            refine WQ.via (fun _ _ h_ => h_) hK126 ?_
            refine WC.ret ?_
            obtain rfl := Option.some.inj H
            rw [hG71] at Ho73
            replace H : some _ = some _ := Ho73
            obtain rfl := Option.some.inj H
            refine WQ.fin (e' := .ret) (fn := Try.f22) (fun _ _ h_ => h_) (WQ.ret1 rfl rfl ?_)
            exact hR_ _ _ ⟨rfl, HS.b⟩
        · rw [if_neg c102] at H
          refine WC.no rfl (decide_eq_false c102) ?_
          refine WC.exit ?_
          obtain rfl := Option.some.inj H
          exact WQ.via2 (fun _ _ h_ => h_) X75 ⟨i74, rfl, Ho73, (St.pick HS (fun W_ h_ => ⟨AllF.get 0 rfl h_, AllF.get 1 rfl h_, AllF.get 2 rfl h_, AllF.get 3 rfl h_, AllF.get 4 rfl h_, AllF.get 5 rfl h_, AllF.get 6 rfl h_, AllF.get 7 rfl h_, AllF.get 8 rfl h_, AllF.get 9 rfl h_, AllF.get 10 rfl h_, AllF.get 11 rfl h_, AllF.get 12 rfl h_, trivial⟩) (fun W_ h_ => trivial))⟩ ⟨rfl, rfl, rfl, rfl, rfl, rfl, trivial⟩
      · rw [if_neg c30] at H
        refine WC.yes rfl (congrArg (fun b_ => !b_) (Bool.eq_false_iff.mpr c30)) ?_
        refine WC.seq (fun K127 hK127 => ?_)
        refine WC.region ?_
        refine as_ ?_
        refine WL.done ?_
        refine WQ.via (fun _ _ h_ => h_) hK127 ?_
        refine WC.ret ?_
        obtain rfl := Option.some.inj H
        refine WQ.fin (e' := .ret) (fn := Try.f22) (fun _ _ h_ => h_) (WQ.ret1 rfl rfl ?_)
        exact hR_ _ _ ⟨rfl, HS.b⟩
    · rw [if_neg c26] at H
      refine off_ (c' := true) (congrArg (fun b_ => !b_) (Bool.eq_false_iff.mpr c26)) ?_
      refine WL.know 24 (congrArg (fun b_ => !b_) (Bool.eq_false_iff.mpr c26)) ?_
      refine fast_ ?_
      refine WQ.via (fun _ _ h_ => h_) hK10 ?_
      refine WC.yes rfl rfl ?_
      refine WC.seq (fun K128 hK128 => ?_)
      refine WC.region ?_
      refine as_ ?_
      refine WL.done ?_
      refine WQ.via (fun _ _ h_ => h_) hK128 ?_
      refine WC.ret ?_
      obtain rfl := Option.some.inj H
      refine WQ.fin (e' := .ret) (fn := Try.f22) (fun _ _ h_ => h_) (WQ.ret1 rfl rfl ?_)
      exact hR_ _ _ ⟨rfl, HS.b⟩
  · rw [if_neg c18] at H
    refine off_ (c' := true) (congrArg (fun b_ => !b_) (Bool.eq_false_iff.mpr c18)) ?_
    refine WL.know 17 (congrArg (fun b_ => !b_) (Bool.eq_false_iff.mpr c18)) ?_
    refine fast_ ?_
    refine WQ.via (fun _ _ h_ => h_) hK10 ?_
    refine WC.yes rfl rfl ?_
    refine WC.seq (fun K129 hK129 => ?_)
    refine WC.region ?_
    refine as_ ?_
    refine WL.done ?_
    refine WQ.via (fun _ _ h_ => h_) hK129 ?_
    refine WC.ret ?_
    obtain rfl := Option.some.inj H
    refine WQ.fin (e' := .ret) (fn := Try.f22) (fun _ _ h_ => h_) (WQ.ret1 rfl rfl ?_)
    exact hR_ _ _ ⟨rfl, HS.b⟩
def impl_Vocab.g (k : Nat) (x0 : S39) : Option Int := (some (wrap64 (256 + (x0.f3.length : Int))))
set_option maxHeartbeats 4000000 in
set_option maxRecDepth 20000 in
theorem impl_Vocab.runs (k : Nat) (cs0 : List Value) (x0 : S39) (r : Int) (w : World) (hk0 : k39.K w x0 cs0) (H : impl_Vocab.g k x0 = some r) :
    Calls Try.prog 17 #[.agg cs0.toArray] w fun e w' => e = .returned (.int .i64 r) ∧ Below w.heap.size w w' := by
  have el0 : cs0.length = 14 := k39.K_len hk0
  unfold impl_Vocab.g at H
  have HS : St (fun _ => True) w w [] [(fun W => k39.K W x0 cs0)] [] := St.start (foot_cons (foot_K h39 hk0) foot_nil)
  refine calls_W Try.func17 rfl rfl (Nat.le_of_ble_eq_true rfl) (fun R_ hR_ => ?_)
  refine WC.seq (fun K1 hK1 => ?_)
  refine WC.region ?_
  refine WL.box HS rfl rfl (by decide) rfl rfl rfl (fun b2 w3 hb2 HS => ?_)
  refine as_ ?_
  refine WL.done ?_
  refine WQ.via (fun _ _ h_ => h_) hK1 ?_
  refine WC.seq (fun K4 hK4 => ?_)
  refine WC.region ?_
  refine v_ (Run.fieldAddr rfl rfl Try.underlying39 rfl (by kernel_rfl) rfl) ?_
  obtain ⟨A5, c6, hc7, le8⟩ := (at39_3 (AtK.whole (HS.getO 0 rfl))).slice
  replace HS := HS.deriveO (p := (fun W => k112.C W A5 x0.f3.length x0.f3)) (fun W_ hO_ hN_ => (at39_3 (AtK.whole (AllF.get 0 rfl hO_))).C hc7)
  refine v_ (Run.load rfl rfl Try.underlying34 rfl (box_cell (HS.mu 0 rfl) hc7)) ?_
  refine v_ (Run.len (ts := #[]) rfl Try.underlying34 rfl) ?_
  refine v_ (Run.bin rfl rfl rfl bin_add64) ?_
  refine as_ ?_
  refine WL.done ?_
  refine WQ.via (fun _ _ h_ => h_) hK4 ?_
  refine WC.ret ?_
  obtain rfl := Option.some.inj H
  refine WQ.fin (e' := .ret) (fn := Try.f17) (fun _ _ h_ => h_) (WQ.ret1 rfl rfl ?_)
  exact hR_ _ _ ⟨rfl, HS.b⟩
def impl_sizesOf_1.g (k : Nat) (a0 : Int) (l1 : List Int) : Option Int := (if a0 < 256 then (some 1) else (if 0 ≤ (wrap64 (a0 - 256)) ∧ (wrap64 (a0 - 256)) < (l1.length : Int) then (some (l1.getD (wrap64 (a0 - 256)).toNat 0)) else none))
set_option maxHeartbeats 4000000 in
set_option maxRecDepth 20000 in
theorem impl_sizesOf_1.runs (k : Nat) (a0 : Int) (b1 : Nat) (A1 : Option Addr) (c1 : Nat) (l1 : List Int) (r : Int) (w : World) (hr1 : (Kd.int .i64).C w A1 l1.length l1) (hc1 : l1.length ≤ c1) (hb1 : w.heap[b1]? = some (.cells #[.slice A1 l1.length c1] 25 (0, 0))) (H : impl_sizesOf_1.g k a0 l1 = some r) :
    Calls Try.prog 147 #[.int .i64 a0, .pointer (some ⟨b1, 0, none⟩)] w fun e w' => e = .returned (.int .i64 r) ∧ Below w.heap.size w w' := by
  unfold impl_sizesOf_1.g at H
  have HS : St (fun _ => True) w w [] [(fun W => (Kd.int .i64).C W A1 l1.length l1), (fun W => W.heap[b1]? = some (.cells #[.slice A1 l1.length c1] 25 (0, 0)))] [] := St.start (foot_cons (foot_C (Kd.heap_int _) hr1) (foot_cons (foot_rob hb1) foot_nil))
  refine calls_W Try.func147 rfl rfl (Nat.le_of_ble_eq_true rfl) (fun R_ hR_ => ?_)
  refine WC.seq (fun K1 hK1 => ?_)
  refine WC.region ?_
  refine as_ ?_
  refine WL.done ?_
  refine WQ.via (fun _ _ h_ => h_) hK1 ?_
  refine WC.seq (fun K2 hK2 => ?_)
  refine WC.seq (fun K3 hK3 => ?_)
  refine WC.region ?_
  refine mv_ ?_
  refine v_ (Run.bin rfl rfl rfl bin_lss) ?_
  refine WL.done ?_
  refine WQ.via (fun _ _ h_ => h_) hK3 ?_
  by_cases c4 : a0 < 256
  · rw [if_pos c4] at H
    refine WC.yes rfl (decide_eq_true c4) ?_
    refine WC.seq (fun K5 hK5 => ?_)
    refine WC.region ?_
    refine as_ ?_
    refine WL.done ?_
    refine WQ.via (fun _ _ h_ => h_) hK5 ?_
    refine WC.ret ?_
    obtain rfl := Option.some.inj H
    refine WQ.fin (e' := .ret) (fn := Try.f147) (fun _ _ h_ => h_) (WQ.ret1 rfl rfl ?_)
    exact hR_ _ _ ⟨rfl, HS.b⟩
  · rw [if_neg c4] at H
    refine WC.no rfl (decide_eq_false c4) ?_
    refine WC.skip ?_
    refine WQ.via (fun _ _ h_ => h_) hK2 ?_
    refine WC.seq (fun K6 hK6 => ?_)
    refine WC.region ?_
    refine v_ (Run.load rfl rfl Try.underlying25 rfl (box_cell (HS.getO 1 rfl) rfl)) ?_
    refine mv_ ?_
    refine v_ (Run.bin rfl rfl rfl bin_sub64) ?_
    obtain ⟨⟨q7, q8⟩, H⟩ := if_some H
    obtain ⟨ad9, rfl⟩ := C_open (HS.getO 0 rfl) (by omega)
    refine v_ (Run.indexAddr rfl rfl rfl Try.underlying25 (sz := 1) (by kernel_rfl) q7 q8) ?_
    refine v_ (Run.load rfl rfl Try.underlying3 rfl (int_cell (HS.getO 0 rfl) (wrap64 (a0 - 256)) q7 q8)) ?_
    refine as_ ?_
    refine WL.done ?_
    refine WQ.via (fun _ _ h_ => h_) hK6 ?_
    refine WC.ret ?_
    obtain rfl := Option.some.inj H
    refine WQ.fin (e' := .ret) (fn := Try.f147) (fun _ _ h_ => h_) (WQ.ret1 rfl rfl ?_)
    exact hR_ _ _ ⟨rfl, HS.b⟩
def impl_sizesOf.b0 (l0 : List S112) (rec_ : Int → (List Int) → Option (((List Int) × Bool) ⊕ (Int × (List Int)))) (k29 : Nat) (i17 : Int) (xs18 : List Int) : Option (((List Int) × Bool) ⊕ (Int × (List Int))) := (if i17 < (l0.length : Int) then (if 0 ≤ i17 ∧ i17 < (l0.length : Int) then ((impl_isToken.f ((l0.getD i17.toNat o112).f0) i17).bind fun t45 => (if t45 = true then ((impl_isToken.f ((l0.getD i17.toNat o112).f1) i17).bind fun t49 => (if t49 = true then ((impl_sizesOf_1.g k29 ((l0.getD i17.toNat o112).f0) xs18).bind fun t57 => ((impl_sizesOf_1.g k29 ((l0.getD i17.toNat o112).f1) xs18).bind fun t60 => (if (wrap64 (t57 + t60)) > 64 then (some (Sum.inl ([], false))) else (if (xs18.length) < 4294967296 then (rec_ (wrap64 (i17 + 1)) (xs18 ++ [wrap64 (t57 + t60)])) else none)))) else (some (Sum.inl ([], false))))) else (some (Sum.inl ([], false))))) else none) else (some (Sum.inr (i17, xs18))))
def impl_sizesOf.l0 (l0 : List S112) : Nat → Int → (List Int) → Option (((List Int) × Bool) ⊕ (Int × (List Int)))
  | 0, _, _ => none
  | k + 1, i17, xs18 => impl_sizesOf.b0 l0 (impl_sizesOf.l0 l0 k) k i17 xs18
def impl_sizesOf.g (k : Nat) (l0 : List S112) : Option ((List Int) × Bool) := ((impl_sizesOf.l0 l0 k 0 ([])).bind (fun o27 => match o27 with | .inl r_ => some r_ | .inr ⟨i17, xs18⟩ => (some (xs18, true))))
set_option maxHeartbeats 4000000 in
set_option maxRecDepth 20000 in
theorem impl_sizesOf.runs (k : Nat) (A0 : Option Addr) (c0 : Nat) (l0 : List S112) (r1 : List Int) (r2 : Bool) (w : World) (hr0 : k112.C w A0 l0.length l0) (hc0 : l0.length ≤ c0) (H : impl_sizesOf.g k l0 = some (r1, r2)) :
    Calls Try.prog 123 #[.slice A0 l0.length c0] w fun e w' => ∃ (A0_ : Option Addr) (c0_ : Nat), e = .returned (.tuple #[.slice A0_ r1.length c0_, .bool r2]) ∧ r1.length ≤ c0_ ∧ Foot (fun W => (Kd.int .i64).C W A0_ r1.length r1) w' (fun k_ => w.heap.size ≤ k_) ∧ Below w.heap.size w w' := by
  unfold impl_sizesOf.g at H
  have HS : St (fun _ => True) w w [] [(fun W => k112.C W A0 l0.length l0)] [] := St.start (foot_cons (foot_C h112 hr0) foot_nil)
  refine calls_W Try.func123 rfl rfl (Nat.le_of_ble_eq_true rfl) (fun R_ hR_ => ?_)
  refine WC.seq (fun K1 hK1 => ?_)
  refine WC.region ?_
  refine as_ ?_
  refine as_ ?_
  refine WL.done ?_
  refine WQ.via (fun _ _ h_ => h_) hK1 ?_
  refine WC.seq (fun K2 hK2 => ?_)
  refine WC.region ?_
  refine WL.lit0 HS rfl rfl (by decide) rfl Try.underlying25 (sz := 1) (by kernel_rfl) (fun v3 w4 HS => ?_)
  replace HS := HS.deriveN (p := (fun W => Reps ((Kd.int .i64).K W) (Kd.int .i64).sz ([] : List Int) [])) (fun _ _ => Reps.none _ _)
  refine WL.alloc HS (v := .slice none 0 0) (cs := #[.slice none 0 0]) rfl rfl (by decide) rfl (by kernel_rfl) rfl (fun b5 w6 hb5 HS => ?_)
  obtain ⟨A8, c9, rfl⟩ := row_slice (HS.mu 1 rfl)
  refine WL.store HS 0 rfl rfl rfl rfl rfl rfl rfl (by kernel_rfl) (Nat.le_of_ble_eq_true rfl) (cs' := #[(.slice A8 0 c9)]) (by kernel_rfl) (fun w7 HS => ?_)
  refine WL.done ?_
  refine WQ.via (fun _ _ h_ => h_) hK2 ?_
  refine WC.seq (fun K10 hK10 => ?_)
  refine WC.region ?_
  refine v_ (Run.makeFunc (cap := [.pointer (some ⟨b5, 0, none⟩)]) rfl rfl) ?_
  refine as_ ?_
  refine WL.done ?_
  refine WQ.via (fun _ _ h_ => h_) hK10 ?_
  refine WC.seq (fun K11 hK11 => ?_)
  refine WC.seq (fun K12 hK12 => ?_)
  refine WC.region ?_
  refine mv_ ?_
  refine v_ (Run.len (ts := #[]) rfl Try.underlying34 rfl) ?_
  refine mv_ ?_
  refine WL.done ?_
  refine WQ.via (fun _ _ h_ => h_) hK12 ?_
  refine WC.block ?_
  obtain ⟨G13, hG14, o15, H, Ho16⟩ := open_G H
  have X21 : ∀ E_ W_, (∃ (i17 : Int) (xs18 : List Int) (v19 : Value) (I20 : List Value), E_ = [(4, .pointer (some ⟨b5, 0, none⟩)), (5, .func (.func 147) #[] #[.pointer (some ⟨b5, 0, none⟩)]), (11, .slice A0 l0.length c0), (12, .int .i64 (l0.length : Int)), (13, .int .i64 i17)] ∧ G13 (Sum.inr (i17, xs18)) = some (r1, r2) ∧ St (fun _ => True) w W_ [boxM b5 #[v19] 25, rowM w.heap.size 3 1 v19 xs18.length I20] [(fun W => k112.C W A0 l0.length l0)] [(fun W => Reps ((Kd.int .i64).K W) (Kd.int .i64).sz xs18 I20)]) → ∀ a, Fits a 47 E_ → K11 a W_ := by
    rintro E_ w22 ⟨i17, xs18, v19, I20, rfl, H, HS⟩
    rw [hG14] at H
    (try dsimp only at H)
    refine hK11 _ _ ?_
    refine WC.seq (fun K23 hK23 => ?_)
    refine WC.region ?_
    obtain ⟨A24, c25, rfl⟩ := row_slice (HS.mu 1 rfl)
    refine v_ (Run.load rfl rfl Try.underlying25 rfl (box_cell (HS.mu 0 rfl) rfl)) ?_
    refine as_ ?_
    refine as_ ?_
    refine WL.done ?_
    refine WQ.via (fun _ _ h_ => h_) hK23 ?_
    refine WC.ret ?_
    have le26 := row_le (HS.mu 1 rfl)
    replace HS := HS.freezeN 1 (p := (fun W => (Kd.int .i64).C W A24 (xs18).length (xs18))) rfl (fun W_ hm_ h_ => row_C (by rfl) hm_ (AllF.get 0 rfl h_))
    obtain ⟨rfl, rfl⟩ := Prod.mk.inj (Option.some.inj H)
    refine WQ.fin (e' := .ret) (fn := Try.f123) (fun _ _ h_ => h_) (WQ.ret2 rfl rfl rfl ?_)
    exact hR_ _ _ ⟨_, _, rfl, le26, (foot_fresh (HS.footN 0 rfl)), HS.b⟩
  refine WC.loop (fun k_ E_ W_ => ∃ (i17 : Int) (xs18 : List Int) (v19 : Value) (I20 : List Value), E_ = [(4, .pointer (some ⟨b5, 0, none⟩)), (5, .func (.func 147) #[] #[.pointer (some ⟨b5, 0, none⟩)]), (11, .slice A0 l0.length c0), (12, .int .i64 (l0.length : Int)), (13, .int .i64 i17)] ∧ (∃ o_, impl_sizesOf.l0 l0 k_ i17 xs18 = some o_ ∧ G13 o_ = some (r1, r2)) ∧ St (fun _ => True) w W_ [boxM b5 #[v19] 25, rowM w.heap.size 3 1 v19 xs18.length I20] [(fun W => k112.C W A0 l0.length l0)] [(fun W => Reps ((Kd.int .i64).K W) (Kd.int .i64).sz xs18 I20)]) k ⟨0, ([]), (.slice A8 0 c9), ([]), rfl, ⟨_, H, Ho16⟩, (St.pick HS (fun W_ h_ => ⟨AllF.get 0 rfl h_, trivial⟩) (fun W_ h_ => ⟨AllF.get 0 rfl h_, trivial⟩))⟩ ⟨rfl, rfl, rfl, rfl, rfl, trivial⟩ ?_
  rintro k_ E_ w28 ⟨i17, xs18, v19, I20, rfl, ⟨o15, H, Ho16⟩, HS⟩
  rcases k_ with _ | k29
  · exact (Option.some_ne_none _ (show none = some _ from H).symm).elim
  replace H : impl_sizesOf.b0 l0 (impl_sizesOf.l0 l0 k29) k29 i17 xs18 = some o15 := H
  unfold impl_sizesOf.b0 at H
  refine WC.seq (fun K30 hK30 => ?_)
  refine WC.region ?_
  refine v_ (Run.bin rfl rfl rfl bin_lss) ?_
  refine WL.done ?_
  refine WQ.via (fun _ _ h_ => h_) hK30 ?_
  refine WC.seq (fun K31 hK31 => ?_)
  by_cases c32 : i17 < (l0.length : Int)
  · rw [if_pos c32] at H
    refine WC.yes rfl (decide_eq_true c32) ?_
    refine WC.skip ?_
    refine WQ.via (fun _ _ h_ => h_) hK31 ?_
    refine WC.seq (fun K33 hK33 => ?_)
    refine WC.block ?_
    refine WC.seq (fun K34 hK34 => ?_)
    refine WC.region ?_
    refine mv_ ?_
    obtain ⟨⟨q35, q36⟩, H⟩ := if_some H
    obtain ⟨ad37, rfl⟩ := C_open (HS.getO 0 rfl) (by omega)
    refine v_ (Run.indexAddr rfl rfl rfl Try.underlying34 (sz := 2) (by kernel_rfl) q35 q36) ?_
    obtain ⟨e38, el39, HS⟩ := HS.elO 0 rfl (by decide) o112 i17 q35 q36
    refine v_ (Run.loadS (cs := [.int .i64 ((l0.getD i17.toNat o112).f0), .int .i64 ((l0.getD i17.toNat o112).f1)]) rfl rfl Try.underlying112 rfl (by kernel_rfl) (cells_part (HS.getO 0 rfl).2 (part_cons (at112_0 (AtK.whole (HS.getO 0 rfl).1)).int (part_cons (at112_1 (AtK.whole (HS.getO 0 rfl).1)).int part_nil)))) ?_
    refine WL.alloc HS (v := .agg #[.int .i64 0, .int .i64 0]) (cs := #[.int .i64 0, .int .i64 0]) rfl rfl (by decide) rfl (by kernel_rfl) rfl (fun b40 w41 hb40 HS => ?_)
    refine as_ ?_
    refine WL.storeS HS 0 (vs := [.int .i64 ((l0.getD i17.toNat o112).f0), .int .i64 ((l0.getD i17.toNat o112).f1)]) rfl rfl rfl rfl rfl rfl (one_cons rfl (one_cons rfl one_nil)) (by kernel_rfl) (Nat.le_of_ble_eq_true rfl) (cs' := #[.int .i64 ((l0.getD i17.toNat o112).f0), .int .i64 ((l0.getD i17.toNat o112).f1)]) (by kernel_rfl) (fun w42 HS => ?_)
    refine WL.done ?_
    refine WQ.via (fun _ _ h_ => h_) hK34 ?_
    refine WC.seq (fun K43 hK43 => ?_)
    refine WC.seq (fun K44 hK44 => ?_)
    refine WC.region ?_
    refine v_ (Run.fieldAddr rfl rfl Try.underlying112 rfl (by kernel_rfl) rfl) ?_
    refine v_ (Run.load rfl rfl Try.underlying3 rfl (box_cell (HS.mu 0 rfl) rfl)) ?_
    refine mv_ ?_
    obtain ⟨t45, ha46, H⟩ := bind_some H
    refine c_ Try.func148 (impl_isToken.calls ((l0.getD i17.toNat o112).f0) i17 t45 _ ha46) ?_
    rintro _ w47 ⟨rfl, hb⟩
    have hb := hb.below
    replace HS := HS.below hb
    refine ⟨_, rfl, ?_⟩
    clear hb
    refine v_ (Run.not rfl rfl) ?_
    refine mv_ ?_
    by_cases c48 : t45 = true
    · rw [if_pos c48] at H
      refine on_ (congrArg (fun b_ => !b_) c48) ?_
      refine v_ (Run.fieldAddr rfl rfl Try.underlying112 rfl (by kernel_rfl) rfl) ?_
      refine on_ (congrArg (fun b_ => !b_) c48) ?_
      refine v_ (Run.load rfl rfl Try.underlying3 rfl (box_cell (HS.mu 0 rfl) rfl)) ?_
      refine on_ (congrArg (fun b_ => !b_) c48) ?_
      refine mv_ ?_
      refine on_ (congrArg (fun b_ => !b_) c48) ?_
      obtain ⟨t49, ha50, H⟩ := bind_some H
      refine c_ Try.func148 (impl_isToken.calls ((l0.getD i17.toNat o112).f1) i17 t49 _ ha50) ?_
      rintro _ w51 ⟨rfl, hb⟩
      have hb := hb.below
      replace HS := HS.below hb
      refine ⟨_, rfl, ?_⟩
      clear hb
      refine on_ (congrArg (fun b_ => !b_) c48) ?_
      refine v_ (Run.not rfl rfl) ?_
      refine v_ (Run.pickF rfl rfl (congrArg (fun b_ => !b_) c48) rfl) ?_
      refine WL.done ?_
      refine WQ.via (fun _ _ h_ => h_) hK44 ?_
      by_cases c52 : t49 = true
      · rw [if_pos c52] at H
        refine WC.no rfl (congrArg (fun b_ => !b_) c52) ?_
        refine WC.skip ?_
        refine WQ.via (fun _ _ h_ => h_) hK43 ?_
        refine WC.seq (fun K53 hK53 => ?_)
        refine WC.drawS HS [] rfl rfl (fun w54 HS => ?_)
        have HB := Below.refl w54.heap.size w54
        have HSW := HS
        refine dp_ 0 (fun _ => Run.move rfl rfl) ?_
        refine dp_ 1 (fun _ => Run.fieldAddr rfl rfl Try.underlying112 rfl (by kernel_rfl) rfl) ?_
        refine dp_ 4 (fun _ => Run.move rfl rfl) ?_
        refine dp_ 5 (fun _ => Run.fieldAddr rfl rfl Try.underlying112 rfl (by kernel_rfl) rfl) ?_
        refine dt_ 2 (Below.refl _ _) (fun w_ hw_ => Run.load rfl rfl Try.underlying3 rfl (box_cell ((HS.below hw_).mu 0 rfl) rfl)) ?_
        refine dt_ 6 (Below.refl _ _) (fun w_ hw_ => Run.load rfl rfl Try.underlying3 rfl (box_cell ((HS.below hw_).mu 0 rfl) rfl)) ?_
        obtain ⟨A55, c56, rfl⟩ := row_slice (HS.mu 2 rfl)
        obtain ⟨t57, ha58, H⟩ := bind_some H
        refine dcv_ (args := [.int .i64 ((l0.getD i17.toNat o112).f0)]) (cap := [.pointer (some ⟨b5, 0, none⟩)]) 3 (w_none rfl) Try.func147 (impl_sizesOf_1.runs k29 ((l0.getD i17.toNat o112).f0) b5 A55 c56 xs18 t57 _ (row_C rfl (HS.mu 2 rfl) (HS.getN 0 rfl)) (row_le (HS.mu 2 rfl)) (HS.mu 1 rfl) ha58) ?_
        rintro _ w59 ⟨rfl, hb⟩
        replace HB := HB.trans (hb.mono HB.size)
        replace HS := HS.below hb
        refine ⟨HB, _, rfl, ?_⟩
        clear hb
        obtain ⟨t60, ha61, H⟩ := bind_some H
        refine dcv_ (args := [.int .i64 ((l0.getD i17.toNat o112).f1)]) (cap := [.pointer (some ⟨b5, 0, none⟩)]) 7 (w_none rfl) Try.func147 (impl_sizesOf_1.runs k29 ((l0.getD i17.toNat o112).f1) b5 A55 c56 xs18 t60 _ (row_C rfl (HS.mu 2 rfl) (HS.getN 0 rfl)) (row_le (HS.mu 2 rfl)) (HS.mu 1 rfl) ha61) ?_
        rintro _ w62 ⟨rfl, hb⟩
        replace HB := HB.trans (hb.mono HB.size)
        replace HS := HS.below hb
        refine ⟨HB, _, rfl, ?_⟩
        clear hb
        refine dp_ 8 (fun _ => Run.bin rfl rfl rfl bin_add64) ?_
        refine dp_ 9 (fun _ => Run.assign rfl rfl) ?_
        refine WD.done (by kernel_rfl) ?_
        clear HB HSW
        refine WQ.via (fun _ _ h_ => h_) hK53 ?_
        refine WC.seq (fun K63 hK63 => ?_)
        refine WC.seq (fun K64 hK64 => ?_)
        refine WC.region ?_
        refine mv_ ?_
        refine v_ (Run.bin rfl rfl rfl bin_gtr) ?_
        refine WL.done ?_
        refine WQ.via (fun _ _ h_ => h_) hK64 ?_
        by_cases c65 : (wrap64 (t57 + t60)) > 64
        · rw [if_pos c65] at H
          refine WC.yes rfl (decide_eq_true c65) ?_
          refine WC.seq (fun K66 hK66 => ?_)
          refine WC.region ?_
          refine as_ ?_
          refine as_ ?_
          refine WL.done ?_
          refine WQ.via (fun _ _ h_ => h_) hK66 ?_
          refine WC.ret ?_
          obtain rfl := Option.some.inj H
          rw [hG14] at Ho16
          replace H : some _ = some _ := Ho16
          obtain ⟨rfl, rfl⟩ := Prod.mk.inj (Option.some.inj H)
          refine WQ.fin (e' := .ret) (fn := Try.f123) (fun _ _ h_ => h_) (WQ.ret2 rfl rfl rfl ?_)
          exact hR_ _ _ ⟨_, _, rfl, (Nat.le_refl _), (fun W_ _ => Kd.C_nil _ _), HS.b⟩
        · rw [if_neg c65] at H
          refine WC.no rfl (decide_eq_false c65) ?_
          refine WC.skip ?_
          refine WQ.via (fun _ _ h_ => h_) hK63 ?_
          refine WC.region ?_
          refine v_ (Run.load rfl rfl Try.underlying25 rfl (box_cell (HS.mu 1 rfl) rfl)) ?_
          refine mv_ ?_
          refine WL.val rfl rfl (by decide) (Run.lit1 (z := (.int .i64 0)) (vs := [.int .i64 (wrap64 (t57 + t60))]) rfl rfl rfl Try.underlying25 (by kernel_rfl) (Nat.le_of_ble_eq_true rfl) (Nat.le_of_ble_eq_true rfl)) ?_
          have HS1 := HS.below (below_alloc (Below.refl _ _) (.cells #[.int .i64 (wrap64 (t57 + t60))] 3))
          obtain ⟨q67, H⟩ := if_some H
          refine WL.append HS1 2 rfl rfl rfl (by decide) rfl (.int .i64 0) 8 Try.underlying25 (by kernel_rfl) rfl (by decide) (by decide) rfl rfl [.int .i64 (wrap64 (t57 + t60))] rfl (lit_news _ _ _) (one_cons rfl one_nil) (by omega) ((xs18 ++ [wrap64 (t57 + t60)]).length) (by simp) (fun v68 w69 I70 hI71 HS => ?_)
          replace HS := HS.deriveN (p := (fun W => Reps ((Kd.int .i64).K W) (Kd.int .i64).sz (xs18 ++ [wrap64 (t57 + t60)]) I70)) (fun W_ hN_ => reps_snoc hI71 (AllF.get 0 rfl hN_) (K_int _))
          clear HS1
          obtain ⟨A73, c74, rfl⟩ := row_slice (HS.mu 2 rfl)
          refine WL.store HS 1 rfl rfl rfl rfl rfl rfl rfl (by kernel_rfl) (Nat.le_of_ble_eq_true rfl) (cs' := #[(.slice A73 ((xs18 ++ [wrap64 (t57 + t60)]).length) c74)]) (by kernel_rfl) (fun w72 HS => ?_)
          refine WL.done ?_
          refine WQ.via (fun _ _ h_ => h_) hK33 ?_
          refine WC.region ?_
          refine v_ (Run.bin rfl rfl rfl bin_add64) ?_
          refine mv_ ?_
          refine WL.done ?_
          exact WQ.round k29 (fun _ _ h_ => h_) (Nat.lt_succ_self _) ⟨(wrap64 (i17 + 1)), (xs18 ++ [wrap64 (t57 + t60)]), (.slice A73 ((xs18 ++ [wrap64 (t57 + t60)]).length) c74), I70, rfl, ⟨_, H, Ho16⟩, (St.pick (St.forget HS 0 rfl) (fun W_ h_ => ⟨AllF.get 1 rfl h_, trivial⟩) (fun W_ h_ => ⟨AllF.get 0 rfl h_, trivial⟩))⟩ ⟨rfl, rfl, rfl, rfl, rfl, trivial⟩
      · rw [if_neg c52] at H
        refine WC.yes rfl (congrArg (fun b_ => !b_) (Bool.eq_false_iff.mpr c52)) ?_
        refine WC.seq (fun K75 hK75 => ?_)
        refine WC.region ?_
        refine as_ ?_
        refine as_ ?_
        refine WL.done ?_
        refine WQ.via (fun _ _ h_ => h_) hK75 ?_
        refine WC.ret ?_
        obtain rfl := Option.some.inj H
        rw [hG14] at Ho16
        replace H : some _ = some _ := Ho16
        obtain ⟨rfl, rfl⟩ := Prod.mk.inj (Option.some.inj H)
        refine WQ.fin (e' := .ret) (fn := Try.f123) (fun _ _ h_ => h_) (WQ.ret2 rfl rfl rfl ?_)
        exact hR_ _ _ ⟨_, _, rfl, (Nat.le_refl _), (fun W_ _ => Kd.C_nil _ _), HS.b⟩
    · rw [if_neg c48] at H
      refine off_ (c' := true) (congrArg (fun b_ => !b_) (Bool.eq_false_iff.mpr c48)) ?_
      refine WL.know 23 (congrArg (fun b_ => !b_) (Bool.eq_false_iff.mpr c48)) ?_
      refine fast_ ?_
      refine WQ.via (fun _ _ h_ => h_) hK44 ?_
      refine WC.yes rfl rfl ?_
      refine WC.seq (fun K76 hK76 => ?_)
      refine WC.region ?_
      refine as_ ?_
      refine as_ ?_
      refine WL.done ?_
      refine WQ.via (fun _ _ h_ => h_) hK76 ?_
      refine WC.ret ?_
      obtain rfl := Option.some.inj H
      rw [hG14] at Ho16
      replace H : some _ = some _ := Ho16
      obtain ⟨rfl, rfl⟩ := Prod.mk.inj (Option.some.inj H)
      refine WQ.fin (e' := .ret) (fn := Try.f123) (fun _ _ h_ => h_) (WQ.ret2 rfl rfl rfl ?_)
      exact hR_ _ _ ⟨_, _, rfl, (Nat.le_refl _), (fun W_ _ => Kd.C_nil _ _), HS.b⟩
  · rw [if_neg c32] at H
    refine WC.no rfl (decide_eq_false c32) ?_
    refine WC.exit ?_
    obtain rfl := Option.some.inj H
    exact WQ.via2 (fun _ _ h_ => h_) X21 ⟨i17, xs18, v19, I20, rfl, Ho16, (St.pick HS (fun W_ h_ => ⟨AllF.get 0 rfl h_, trivial⟩) (fun W_ h_ => ⟨AllF.get 0 rfl h_, trivial⟩))⟩ ⟨rfl, rfl, rfl, rfl, rfl, trivial⟩
def impl_MergesOk.b0 (l0 : List S112) (rec_ : Int → Option (Bool ⊕ Int)) (k26 : Nat) (i12 : Int) : Option (Bool ⊕ Int) := (if i12 < (l0.length : Int) then (if 0 ≤ i12 ∧ i12 < (l0.length : Int) then (if 0 ≤ i12 ∧ i12 ≤ (l0.length : Int) then ((impl_Merge_122.f k26 (l0.take i12.toNat) ((l0.getD i12.toNat o112).f0) ((l0.getD i12.toNat o112).f1)).bind fun t49 => (if t49 = true then (some (Sum.inl false)) else (rec_ (wrap64 (i12 + 1))))) else none) else none) else (some (Sum.inr i12)))
def impl_MergesOk.l0 (l0 : List S112) : Nat → Int → Option (Bool ⊕ Int)
  | 0, _ => none
  | k + 1, i12 => impl_MergesOk.b0 l0 (impl_MergesOk.l0 l0 k) k i12
def impl_MergesOk.g (k : Nat) (l0 : List S112) : Option Bool := (if (l0.length : Int) > 16 then (some false) else ((impl_MergesOk.l0 l0 k 0).bind (fun o24 => match o24 with | .inl r_ => some r_ | .inr i12 => ((impl_sizesOf.g k l0).bind fun t16 => (some t16.2)))))
set_option maxHeartbeats 4000000 in
set_option maxRecDepth 20000 in
theorem impl_MergesOk.runs (k : Nat) (A0 : Option Addr) (c0 : Nat) (l0 : List S112) (r : Bool) (w : World) (hr0 : k112.C w A0 l0.length l0) (hc0 : l0.length ≤ c0) (H : impl_MergesOk.g k l0 = some r) :
    Calls Try.prog 71 #[.slice A0 l0.length c0] w fun e w' => e = .returned (.bool r) ∧ Below w.heap.size w w' := by
  unfold impl_MergesOk.g at H
  have HS : St (fun _ => True) w w [] [(fun W => k112.C W A0 l0.length l0)] [] := St.start (foot_cons (foot_C h112 hr0) foot_nil)
  refine calls_W Try.func71 rfl rfl (Nat.le_of_ble_eq_true rfl) (fun R_ hR_ => ?_)
  refine WC.seq (fun K1 hK1 => ?_)
  refine WC.region ?_
  refine as_ ?_
  refine WL.done ?_
  refine WQ.via (fun _ _ h_ => h_) hK1 ?_
  refine WC.seq (fun K2 hK2 => ?_)
  refine WC.seq (fun K3 hK3 => ?_)
  refine WC.region ?_
  refine mv_ ?_
  refine v_ (Run.len (ts := #[]) rfl Try.underlying34 rfl) ?_
  refine v_ (Run.bin rfl rfl rfl bin_gtr) ?_
  refine WL.done ?_
  refine WQ.via (fun _ _ h_ => h_) hK3 ?_
  by_cases c4 : (l0.length : Int) > 16
  · rw [if_pos c4] at H
    refine WC.yes rfl (decide_eq_true c4) ?_
    refine WC.seq (fun K5 hK5 => ?_)
    refine WC.region ?_
    refine as_ ?_
    refine WL.done ?_
    refine WQ.via (fun _ _ h_ => h_) hK5 ?_
    refine WC.ret ?_
    obtain rfl := Option.some.inj H
    refine WQ.fin (e' := .ret) (fn := Try.f71) (fun _ _ h_ => h_) (WQ.ret1 rfl rfl ?_)
    exact hR_ _ _ ⟨rfl, HS.b⟩
  · rw [if_neg c4] at H
    refine WC.no rfl (decide_eq_false c4) ?_
    refine WC.skip ?_
    refine WQ.via (fun _ _ h_ => h_) hK2 ?_
    refine WC.seq (fun K6 hK6 => ?_)
    refine WC.seq (fun K7 hK7 => ?_)
    refine WC.region ?_
    refine mv_ ?_
    refine v_ (Run.len (ts := #[]) rfl Try.underlying34 rfl) ?_
    refine mv_ ?_
    refine WL.done ?_
    refine WQ.via (fun _ _ h_ => h_) hK7 ?_
    refine WC.block ?_
    obtain ⟨G8, hG9, o10, H, Ho11⟩ := open_G H
    have X13 : ∀ E_ W_, (∃ (i12 : Int), E_ = [(0, .slice A0 l0.length c0), (10, .slice A0 l0.length c0), (11, .int .i64 (l0.length : Int)), (12, .int .i64 i12)] ∧ G8 (Sum.inr i12) = some r ∧ St (fun _ => True) w W_ [] [(fun W => k112.C W A0 l0.length l0)] []) → ∀ a, Fits a 29 E_ → K6 a W_ := by
      rintro E_ w14 ⟨i12, rfl, H, HS⟩
      rw [hG9] at H
      (try dsimp only at H)
      refine hK6 _ _ ?_
      refine WC.seq (fun K15 hK15 => ?_)
      refine WC.region ?_
      refine mv_ ?_
      obtain ⟨t16, ha17, H⟩ := bind_some H
      refine c_ Try.func123 (impl_sizesOf.runs k A0 c0 l0 t16.1 t16.2 _ (HS.getO 0 rfl) hc0 ha17) ?_
      rintro _ w18 ⟨A19, c20, rfl, le21, hf22, hb⟩
      replace HS := HS.newNs hb (ps := [(fun W => (Kd.int .i64).C W A19 t16.1.length t16.1)]) (foot_cons hf22 foot_nil)
      refine ⟨_, rfl, ?_⟩
      clear hb
      refine mv_ ?_
      refine v_ (Run.extract rfl rfl rfl) ?_
      refine v_ (Run.extract rfl rfl rfl) ?_
      refine as_ ?_
      refine as_ ?_
      refine WL.done ?_
      refine WQ.via (fun _ _ h_ => h_) hK15 ?_
      refine WC.seq (fun K23 hK23 => ?_)
      refine WC.region ?_
      refine mv_ ?_
      refine as_ ?_
      refine WL.done ?_
      refine WQ.via (fun _ _ h_ => h_) hK23 ?_
      refine WC.ret ?_
      obtain rfl := Option.some.inj H
      refine WQ.fin (e' := .ret) (fn := Try.f71) (fun _ _ h_ => h_) (WQ.ret1 rfl rfl ?_)
      exact hR_ _ _ ⟨rfl, HS.b⟩
    refine WC.loop (fun k_ E_ W_ => ∃ (i12 : Int), E_ = [(0, .slice A0 l0.length c0), (10, .slice A0 l0.length c0), (11, .int .i64 (l0.length : Int)), (12, .int .i64 i12)] ∧ (∃ o_, impl_MergesOk.l0 l0 k_ i12 = some o_ ∧ G8 o_ = some r) ∧ St (fun _ => True) w W_ [] [(fun W => k112.C W A0 l0.length l0)] []) k ⟨0, rfl, ⟨_, H, Ho11⟩, (St.pick HS (fun W_ h_ => ⟨AllF.get 0 rfl h_, trivial⟩) (fun W_ h_ => trivial))⟩ ⟨rfl, rfl, rfl, rfl, trivial⟩ ?_
    rintro k_ E_ w25 ⟨i12, rfl, ⟨o10, H, Ho11⟩, HS⟩
    rcases k_ with _ | k26
    · exact (Option.some_ne_none _ (show none = some _ from H).symm).elim
    replace H : impl_MergesOk.b0 l0 (impl_MergesOk.l0 l0 k26) k26 i12 = some o10 := H
    unfold impl_MergesOk.b0 at H
    refine WC.seq (fun K27 hK27 => ?_)
    refine WC.region ?_
    refine v_ (Run.bin rfl rfl rfl bin_lss) ?_
    refine WL.done ?_
    refine WQ.via (fun _ _ h_ => h_) hK27 ?_
    refine WC.seq (fun K28 hK28 => ?_)
    by_cases c29 : i12 < (l0.length : Int)
    · rw [if_pos c29] at H
      refine WC.yes rfl (decide_eq_true c29) ?_
      refine WC.skip ?_
      refine WQ.via (fun _ _ h_ => h_) hK28 ?_
      refine WC.seq (fun K30 hK30 => ?_)
      refine WC.block ?_
      refine WC.seq (fun K31 hK31 => ?_)
      refine WC.region ?_
      refine mv_ ?_
      obtain ⟨⟨q32, q33⟩, H⟩ := if_some H
      obtain ⟨ad34, rfl⟩ := C_open (HS.getO 0 rfl) (by omega)
      refine v_ (Run.indexAddr rfl rfl rfl Try.underlying34 (sz := 2) (by kernel_rfl) q32 q33) ?_
      obtain ⟨e35, el36, HS⟩ := HS.elO 0 rfl (by decide) o112 i12 q32 q33
      refine v_ (Run.loadS (cs := [.int .i64 ((l0.getD i12.toNat o112).f0), .int .i64 ((l0.getD i12.toNat o112).f1)]) rfl rfl Try.underlying112 rfl (by kernel_rfl) (cells_part (HS.getO 0 rfl).2 (part_cons (at112_0 (AtK.whole (HS.getO 0 rfl).1)).int (part_cons (at112_1 (AtK.whole (HS.getO 0 rfl).1)).int part_nil)))) ?_
      refine WL.alloc HS (v := .agg #[.int .i64 0, .int .i64 0]) (cs := #[.int .i64 0, .int .i64 0]) rfl rfl (by decide) rfl (by kernel_rfl) rfl (fun b37 w38 hb37 HS => ?_)
      refine as_ ?_
      refine WL.storeS HS 0 (vs := [.int .i64 ((l0.getD i12.toNat o112).f0), .int .i64 ((l0.getD i12.toNat o112).f1)]) rfl rfl rfl rfl rfl rfl (one_cons rfl (one_cons rfl one_nil)) (by kernel_rfl) (Nat.le_of_ble_eq_true rfl) (cs' := #[.int .i64 ((l0.getD i12.toNat o112).f0), .int .i64 ((l0.getD i12.toNat o112).f1)]) (by kernel_rfl) (fun w39 HS => ?_)
      refine WL.done ?_
      refine WQ.via (fun _ _ h_ => h_) hK31 ?_
      refine WC.seq (fun K40 hK40 => ?_)
      refine WC.drawS HS [] rfl rfl (fun w41 HS => ?_)
      have HB := Below.refl w41.heap.size w41
      have HSW := HS
      refine dp_ 0 (fun _ => Run.move rfl rfl) ?_
      refine dp_ 1 (fun _ => Run.move rfl rfl) ?_
      obtain ⟨⟨q42, q43⟩, H⟩ := if_some H
      obtain ⟨A44, c45, he46, le47, hf48⟩ := slc_take k112 (some ad34) c0 l0 i12 q42 q43 hc0
      replace HS := HS.deriveO (p := (fun W => k112.C W A44 (l0.take i12.toNat).length (l0.take i12.toNat))) (fun W_ hO_ hN_ => hf48 W_ (AllF.get 1 rfl hO_))
      refine dp_ 2 (fun _ => Run.eqv he46 (Run.slH rfl Try.underlying34 (by kernel_rfl) rfl rfl q42 (Int.le_trans q43 (Int.ofNat_le.mpr hc0)))) ?_
      refine dt_ 3 (Below.refl _ _) (fun w_ hw_ => Run.loadS (cs := [.int .i64 ((l0.getD i12.toNat o112).f0), .int .i64 ((l0.getD i12.toNat o112).f1)]) rfl rfl Try.underlying112 rfl (by kernel_rfl) (box_part ((HS.below hw_).mu 0 rfl) part_all)) ?_
      obtain ⟨t49, ha50, H⟩ := bind_some H
      refine dc_ 4 (w_none rfl) Try.func122 (impl_Merge_122.calls k26 A44 c45 (l0.take i12.toNat) ((l0.getD i12.toNat o112).f0) ((l0.getD i12.toNat o112).f1) t49 _ (HS.getO 0 rfl) le47 ha50) ?_
      rintro _ w51 ⟨rfl, hb⟩
      replace HB := HB.trans (hb.mono HB.size)
      replace HS := HS.below hb
      refine ⟨HB, _, rfl, ?_⟩
      clear hb
      refine WD.done (by kernel_rfl) ?_
      clear HB HSW
      refine WQ.via (fun _ _ h_ => h_) hK40 ?_
      by_cases c52 : t49 = true
      · rw [if_pos c52] at H
        refine WC.yes rfl c52 ?_
        refine WC.seq (fun K53 hK53 => ?_)
        refine WC.region ?_
        refine as_ ?_
        refine WL.done ?_
        refine WQ.via (fun _ _ h_ => h_) hK53 ?_
        refine WC.ret ?_
        obtain rfl := Option.some.inj H
        rw [hG9] at Ho11
        replace H : some _ = some _ := Ho11
        obtain rfl := Option.some.inj H
        refine WQ.fin (e' := .ret) (fn := Try.f71) (fun _ _ h_ => h_) (WQ.ret1 rfl rfl ?_)
        exact hR_ _ _ ⟨rfl, HS.b⟩
      · rw [if_neg c52] at H
        refine WC.no rfl (Bool.eq_false_iff.mpr c52) ?_
        refine WC.skip ?_
        refine WQ.via (fun _ _ h_ => h_) hK30 ?_
        refine WC.region ?_
        refine v_ (Run.bin rfl rfl rfl bin_add64) ?_
        refine mv_ ?_
        refine WL.done ?_
        exact WQ.round k26 (fun _ _ h_ => h_) (Nat.lt_succ_self _) ⟨(wrap64 (i12 + 1)), rfl, ⟨_, H, Ho11⟩, (St.pick (St.forget HS 0 rfl) (fun W_ h_ => ⟨AllF.get 2 rfl h_, trivial⟩) (fun W_ h_ => trivial))⟩ ⟨rfl, rfl, rfl, rfl, trivial⟩
    · rw [if_neg c29] at H
      refine WC.no rfl (decide_eq_false c29) ?_
      refine WC.exit ?_
      obtain rfl := Option.some.inj H
      exact WQ.via2 (fun _ _ h_ => h_) X13 ⟨i12, rfl, Ho11, (St.pick HS (fun W_ h_ => ⟨AllF.get 0 rfl h_, trivial⟩) (fun W_ h_ => trivial))⟩ ⟨rfl, rfl, rfl, rfl, trivial⟩
def impl_ModelOk_1.g (k : Nat) (l0 : List Int) (x1 : S39) : Option Bool := (if (l0.length : Int) = x1.f0 then ((impl_allIn.f l0 (-127) 127).bind fun t4 => (some (!t4))) else (some true))
set_option maxHeartbeats 4000000 in
set_option maxRecDepth 20000 in
theorem impl_ModelOk_1.runs (k : Nat) (A0 : Option Addr) (c0 : Nat) (l0 : List Int) (b1 : Nat) (cs1 : List Value) (x1 : S39) (r : Bool) (w : World) (hr0 : (Kd.int .i64).C w A0 l0.length l0) (hc0 : l0.length ≤ c0) (hk1 : k39.K w x1 cs1) (hb1 : w.heap[b1]? = some (.cells cs1.toArray 39 (0, 0))) (H : impl_ModelOk_1.g k l0 x1 = some r) :
    Calls Try.prog 73 #[.slice A0 l0.length c0, .pointer (some ⟨b1, 0, none⟩)] w fun e w' => e = .returned (.bool r) ∧ Below w.heap.size w w' := by
  have el1 : cs1.length = 14 := k39.K_len hk1
  unfold impl_ModelOk_1.g at H
  have HS : St (fun _ => True) w w [] [(fun W => (Kd.int .i64).C W A0 l0.length l0), (fun W => k39.K W x1 cs1), (fun W => W.heap[b1]? = some (.cells cs1.toArray 39 (0, 0)))] [] := St.start (foot_cons (foot_C (Kd.heap_int _) hr0) (foot_cons (foot_K h39 hk1) (foot_cons (foot_rob hb1) foot_nil)))
  refine calls_W Try.func73 rfl rfl (Nat.le_of_ble_eq_true rfl) (fun R_ hR_ => ?_)
  refine WC.seq (fun K1 hK1 => ?_)
  refine WC.region ?_
  refine as_ ?_
  refine WL.done ?_
  refine WQ.via (fun _ _ h_ => h_) hK1 ?_
  refine WC.seq (fun K2 hK2 => ?_)
  refine WC.region ?_
  refine mv_ ?_
  refine v_ (Run.len (ts := #[]) rfl Try.underlying25 rfl) ?_
  refine v_ (Run.fieldAddr rfl rfl Try.underlying39 rfl (by kernel_rfl) rfl) ?_
  refine v_ (Run.load rfl rfl Try.underlying3 rfl (box_cell (HS.getO 2 rfl) (at39_0 (AtK.whole (HS.getO 1 rfl))).int)) ?_
  refine v_ (Run.bin rfl rfl rfl bin_neq) ?_
  refine mv_ ?_
  by_cases c3 : (l0.length : Int) = x1.f0
  · rw [if_pos c3] at H
    refine on_ (bne_eq_false_iff_eq.mpr c3) ?_
    refine mv_ ?_
    refine on_ (bne_eq_false_iff_eq.mpr c3) ?_
    obtain ⟨t4, ha5, H⟩ := bind_some H
    refine c_ Try.func74 (impl_allIn.calls A0 c0 l0 (-127) 127 t4 _ (HS.getO 0 rfl) hc0 ha5) ?_
    rintro _ w6 ⟨rfl, hb⟩
    replace HS := HS.below hb
    refine ⟨_, rfl, ?_⟩
    clear hb
    refine on_ (bne_eq_false_iff_eq.mpr c3) ?_
    refine v_ (Run.not rfl rfl) ?_
    refine v_ (Run.pickF rfl rfl (bne_eq_false_iff_eq.mpr c3) rfl) ?_
    refine as_ ?_
    refine WL.done ?_
    refine WQ.via (fun _ _ h_ => h_) hK2 ?_
    refine WC.ret ?_
    obtain rfl := Option.some.inj H
    refine WQ.fin (e' := .ret) (fn := Try.f73) (fun _ _ h_ => h_) (WQ.ret1 rfl rfl ?_)
    exact hR_ _ _ ⟨rfl, HS.b⟩
  · rw [if_neg c3] at H
    refine off_ (c' := true) (bne_iff_ne.mpr c3) ?_
    refine WL.know 9 (bne_iff_ne.mpr c3) ?_
    refine fast_ ?_
    refine WQ.via (fun _ _ h_ => h_) hK2 ?_
    refine WC.ret ?_
    obtain rfl := Option.some.inj H
    refine WQ.fin (e' := .ret) (fn := Try.f73) (fun _ _ h_ => h_) (WQ.ret1 rfl rfl ?_)
    exact hR_ _ _ ⟨rfl, HS.b⟩
def slices_IndexFunc_int_int_73.b0 (l0 : List (List Int)) (x1c0 : S39) (rec_ : Int → Option (Int ⊕ Int)) (k14 : Nat) (i8 : Int) : Option (Int ⊕ Int) := (if i8 < (l0.length : Int) then (if 0 ≤ i8 ∧ i8 < (l0.length : Int) then ((impl_ModelOk_1.g k14 (l0.getD i8.toNat []) x1c0).bind fun t27 => (if t27 = true then (some (Sum.inl i8)) else (rec_ (wrap64 (i8 + 1))))) else none) else (some (Sum.inr i8)))
def slices_IndexFunc_int_int_73.l0 (l0 : List (List Int)) (x1c0 : S39) : Nat → Int → Option (Int ⊕ Int)
  | 0, _ => none
  | k + 1, i8 => slices_IndexFunc_int_int_73.b0 l0 x1c0 (slices_IndexFunc_int_int_73.l0 l0 x1c0 k) k i8
def slices_IndexFunc_int_int_73.g (k : Nat) (l0 : List (List Int)) (x1c0 : S39) : Option Int := ((slices_IndexFunc_int_int_73.l0 l0 x1c0 k 0).bind (fun o12 => match o12 with | .inl r_ => some r_ | .inr i8 => (some (-1))))
set_option maxHeartbeats 4000000 in
set_option maxRecDepth 20000 in
theorem slices_IndexFunc_int_int_73.runs (k : Nat) (A0 : Option Addr) (c0 : Nat) (l0 : List (List Int)) (b1c0 : Nat) (cs1c0 : List Value) (x1c0 : S39) (r : Int) (w : World) (hr0 : (Kd.slice 3 (Kd.int .i64)).C w A0 l0.length l0) (hc0 : l0.length ≤ c0) (hk1c0 : k39.K w x1c0 cs1c0) (hb1c0 : w.heap[b1c0]? = some (.cells cs1c0.toArray 39 (0, 0))) (H : slices_IndexFunc_int_int_73.g k l0 x1c0 = some r) :
    Calls Try.prog 124 #[.slice A0 l0.length c0, .func (.func 73) #[] #[.pointer (some ⟨b1c0, 0, none⟩)]] w fun e w' => e = .returned (.int .i64 r) ∧ Below w.heap.size w w' := by
  have el1c0 : cs1c0.length = 14 := k39.K_len hk1c0
  unfold slices_IndexFunc_int_int_73.g at H
  have HS : St (fun _ => True) w w [] [(fun W => (Kd.slice 3 (Kd.int .i64)).C W A0 l0.length l0), (fun W => k39.K W x1c0 cs1c0), (fun W => W.heap[b1c0]? = some (.cells cs1c0.toArray 39 (0, 0)))] [] := St.start (foot_cons (foot_C (Kd.heap_slice _ (Kd.heap_int _)) hr0) (foot_cons (foot_K h39 hk1c0) (foot_cons (foot_rob hb1c0) foot_nil)))
  refine calls_W Try.func124 rfl rfl (Nat.le_of_ble_eq_true rfl) (fun R_ hR_ => ?_)
  refine WC.seq (fun K1 hK1 => ?_)
  refine WC.region ?_
  refine as_ ?_
  refine WL.done ?_
  refine WQ.via (fun _ _ h_ => h_) hK1 ?_
  refine WC.seq (fun K2 hK2 => ?_)
  refine WC.seq (fun K3 hK3 => ?_)
  refine WC.region ?_
  refine mv_ ?_
  refine v_ (Run.len (ts := #[]) rfl Try.underlying23 rfl) ?_
  refine mv_ ?_
  refine WL.done ?_
  refine WQ.via (fun _ _ h_ => h_) hK3 ?_
  refine WC.block ?_
  obtain ⟨G4, hG5, o6, H, Ho7⟩ := open_G H
  have X9 : ∀ E_ W_, (∃ (i8 : Int), E_ = [(0, .slice A0 l0.length c0), (1, .func (.func 73) #[] #[.pointer (some ⟨b1c0, 0, none⟩)]), (7, .int .i64 (l0.length : Int)), (8, .int .i64 i8)] ∧ G4 (Sum.inr i8) = some r ∧ St (fun _ => True) w W_ [] [(fun W => (Kd.slice 3 (Kd.int .i64)).C W A0 l0.length l0), (fun W => k39.K W x1c0 cs1c0), (fun W => W.heap[b1c0]? = some (.cells cs1c0.toArray 39 (0, 0)))] []) → ∀ a, Fits a 19 E_ → K2 a W_ := by
    rintro E_ w10 ⟨i8, rfl, H, HS⟩
    rw [hG5] at H
    (try dsimp only at H)
    refine hK2 _ _ ?_
    refine WC.seq (fun K11 hK11 => ?_)
    refine WC.region ?_
    refine as_ ?_
    refine WL.done ?_
    refine WQ.via (fun _ _ h_ => h_) hK11 ?_
    refine WC.ret ?_
    obtain rfl := Option.some.inj H
    refine WQ.fin (e' := .ret) (fn := Try.f124) (fun _ _ h_ => h_) (WQ.ret1 rfl rfl ?_)
    exact hR_ _ _ ⟨rfl, HS.b⟩
  refine WC.loop (fun k_ E_ W_ => ∃ (i8 : Int), E_ = [(0, .slice A0 l0.length c0), (1, .func (.func 73) #[] #[.pointer (some ⟨b1c0, 0, none⟩)]), (7, .int .i64 (l0.length : Int)), (8, .int .i64 i8)] ∧ (∃ o_, slices_IndexFunc_int_int_73.l0 l0 x1c0 k_ i8 = some o_ ∧ G4 o_ = some r) ∧ St (fun _ => True) w W_ [] [(fun W => (Kd.slice 3 (Kd.int .i64)).C W A0 l0.length l0), (fun W => k39.K W x1c0 cs1c0), (fun W => W.heap[b1c0]? = some (.cells cs1c0.toArray 39 (0, 0)))] []) k ⟨0, rfl, ⟨_, H, Ho7⟩, (St.pick HS (fun W_ h_ => ⟨AllF.get 0 rfl h_, AllF.get 1 rfl h_, AllF.get 2 rfl h_, trivial⟩) (fun W_ h_ => trivial))⟩ ⟨rfl, rfl, rfl, rfl, trivial⟩ ?_
  rintro k_ E_ w13 ⟨i8, rfl, ⟨o6, H, Ho7⟩, HS⟩
  rcases k_ with _ | k14
  · exact (Option.some_ne_none _ (show none = some _ from H).symm).elim
  replace H : slices_IndexFunc_int_int_73.b0 l0 x1c0 (slices_IndexFunc_int_int_73.l0 l0 x1c0 k14) k14 i8 = some o6 := H
  unfold slices_IndexFunc_int_int_73.b0 at H
  refine WC.seq (fun K15 hK15 => ?_)
  refine WC.region ?_
  refine v_ (Run.bin rfl rfl rfl bin_lss) ?_
  refine WL.done ?_
  refine WQ.via (fun _ _ h_ => h_) hK15 ?_
  refine WC.seq (fun K16 hK16 => ?_)
  by_cases c17 : i8 < (l0.length : Int)
  · rw [if_pos c17] at H
    refine WC.yes rfl (decide_eq_true c17) ?_
    refine WC.skip ?_
    refine WQ.via (fun _ _ h_ => h_) hK16 ?_
    refine WC.seq (fun K18 hK18 => ?_)
    refine WC.block ?_
    refine WC.seq (fun K19 hK19 => ?_)
    refine WC.region ?_
    refine mv_ ?_
    refine as_ ?_
    refine WL.done ?_
    refine WQ.via (fun _ _ h_ => h_) hK19 ?_
    refine WC.seq (fun K20 hK20 => ?_)
    refine WC.region ?_
    refine mv_ ?_
    refine mv_ ?_
    refine mv_ ?_
    obtain ⟨⟨q21, q22⟩, H⟩ := if_some H
    obtain ⟨ad23, rfl⟩ := C_open (HS.getO 0 rfl) (by omega)
    refine v_ (Run.indexAddr rfl rfl rfl Try.underlying23 (sz := 1) (by kernel_rfl) q21 q22) ?_
    obtain ⟨A24, c25, le26, HS⟩ := HS.slO 0 rfl i8 q21 q22
    refine v_ (Run.load rfl rfl Try.underlying25 rfl (HS.getO 1 rfl)) ?_
    obtain ⟨t27, ha28, H⟩ := bind_some H
    refine cv_ (args := [.slice A24 ((l0.getD i8.toNat []).length) c25]) (cap := [.pointer (some ⟨b1c0, 0, none⟩)]) Try.func73 (impl_ModelOk_1.runs k14 A24 c25 (l0.getD i8.toNat []) b1c0 cs1c0 x1c0 t27 _ (HS.getO 0 rfl) le26 (HS.getO 3 rfl) (HS.getO 4 rfl) ha28) ?_
    rintro _ w29 ⟨rfl, hb⟩
    replace HS := HS.below hb
    refine ⟨_, rfl, ?_⟩
    clear hb
    refine WL.done ?_
    refine WQ.via (fun _ _ h_ => h_) hK20 ?_
    by_cases c30 : t27 = true
    · rw [if_pos c30] at H
      refine WC.yes rfl c30 ?_
      refine WC.seq (fun K31 hK31 => ?_)
      refine WC.region ?_
      refine mv_ ?_
      refine as_ ?_
      refine WL.done ?_
      refine WQ.via (fun _ _ h_ => h_) hK31 ?_
      refine WC.ret ?_
      obtain rfl := Option.some.inj H
      rw [hG5] at Ho7
      replace H : some _ = some _ := Ho7
      obtain rfl := Option.some.inj H
      refine WQ.fin (e' := .ret) (fn := Try.f124) (fun _ _ h_ => h_) (WQ.ret1 rfl rfl ?_)
      exact hR_ _ _ ⟨rfl, HS.b⟩
    · rw [if_neg c30] at H
      refine WC.no rfl (Bool.eq_false_iff.mpr c30) ?_
      refine WC.skip ?_
      refine WQ.via (fun _ _ h_ => h_) hK18 ?_
      refine WC.region ?_
      refine v_ (Run.bin rfl rfl rfl bin_add64) ?_
      refine mv_ ?_
      refine WL.done ?_
      exact WQ.round k14 (fun _ _ h_ => h_) (Nat.lt_succ_self _) ⟨(wrap64 (i8 + 1)), rfl, ⟨_, H, Ho7⟩, (St.pick HS (fun W_ h_ => ⟨AllF.get 2 rfl h_, AllF.get 3 rfl h_, AllF.get 4 rfl h_, trivial⟩) (fun W_ h_ => trivial))⟩ ⟨rfl, rfl, rfl, rfl, trivial⟩
  · rw [if_neg c17] at H
    refine WC.no rfl (decide_eq_false c17) ?_
    refine WC.exit ?_
    obtain rfl := Option.some.inj H
    exact WQ.via2 (fun _ _ h_ => h_) X9 ⟨i8, rfl, Ho7, (St.pick HS (fun W_ h_ => ⟨AllF.get 0 rfl h_, AllF.get 1 rfl h_, AllF.get 2 rfl h_, trivial⟩) (fun W_ h_ => trivial))⟩ ⟨rfl, rfl, rfl, rfl, trivial⟩
end Go.Proofs.Ytacbkcofcbglhaa.PFnExactModelOk
