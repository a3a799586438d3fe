/- Functions that the statement reaches, as Lean functions, and the proof that a call of each comes to just its answer; written by this claim's own program. No conditions. -/
import Derived.Test.YtacbkcofcbglhaaGreatGFnExactCellOk0
namespace Go.Proofs.YtacbkcofcbglhaaGreat.PFnExactCellOk
open Go.RowKit Go.Proofs.YtacbkcofcbglhaaGreatW.PrintWords Go.Proofs.YtacbkcofcbglhaaGreatW.PrintLast Go.Proofs.YtacbkcofcbglhaaGreatW.PrintMore Go.Proofs.YtacbkcofcbglhaaGreat.XW Go.Proofs.YtacbkcofcbglhaaGreat.XOp Go.Proofs.YtacbkcofcbglhaaGreat.XSt Go.Proofs.YtacbkcofcbglhaaGreat.XDraw
set_option linter.unusedVariables false
set_option linter.unusedSimpArgs false
set_option maxHeartbeats 4000000
set_option maxRecDepth 20000
def spec_ModelOk.b3 (x0 : S47) (rec_ : Int → Option (Bool ⊕ Int)) (k236 : Nat) (i166 : Int) : Option (Bool ⊕ Int) := (if i166 < (x0.f4.length : Int) then (if 0 ≤ i166 ∧ i166 < (x0.f4.length : Int) then (if ((x0.f4.getD i166.toNat []).length : Int) = x0.f0 then ((spec_l05All.f k236 (x0.f4.getD i166.toNat []) (-127) 127).bind fun t250 => (if t250 = true then (rec_ (wrap64 (i166 + 1))) else (some (Sum.inl false)))) else (some (Sum.inl false))) else none) else (some (Sum.inr i166)))
def spec_ModelOk.l3 (x0 : S47) : Nat → Int → Option (Bool ⊕ Int)
  | 0, _ => none
  | k + 1, i166 => spec_ModelOk.b3 x0 (spec_ModelOk.l3 x0 k) k i166
def spec_ModelOk.b2 (x0 : S47) (rec_ : Int → Option (Bool ⊕ Int)) (k217 : Nat) (i175 : Int) : Option (Bool ⊕ Int) := (if i175 < (x0.f5.length : Int) then (if 0 ≤ i175 ∧ i175 < (x0.f5.length : Int) then ((spec_LayerOk.g k217 (x0.f5.getD i175.toNat o86) x0.f0).bind fun t229 => (if t229 = true then (rec_ (wrap64 (i175 + 1))) else (some (Sum.inl false)))) else none) else (some (Sum.inr i175)))
def spec_ModelOk.l2 (x0 : S47) : Nat → Int → Option (Bool ⊕ Int)
  | 0, _ => none
  | k + 1, i175 => spec_ModelOk.b2 x0 (spec_ModelOk.l2 x0 k) k i175
def spec_ModelOk.b1 (x0 : S47) (rec_ : Int → Option (Bool ⊕ Int)) (k112 : Nat) (i42 : Int) : Option (Bool ⊕ Int) := (if i42 < (x0.f4.length : Int) then (if 0 ≤ i42 ∧ i42 < (x0.f4.length : Int) then (if ((x0.f4.getD i42.toNat []).length : Int) = x0.f0 then ((spec_l05All.f k112 (x0.f4.getD i42.toNat []) (-127) 127).bind fun t126 => (if t126 = true then (rec_ (wrap64 (i42 + 1))) else (some (Sum.inl false)))) else (some (Sum.inl false))) else none) else (some (Sum.inr i42)))
def spec_ModelOk.l1 (x0 : S47) : Nat → Int → Option (Bool ⊕ Int)
  | 0, _ => none
  | k + 1, i42 => spec_ModelOk.b1 x0 (spec_ModelOk.l1 x0 k) k i42
def spec_ModelOk.b0 (x0 : S47) (rec_ : Int → Option (Bool ⊕ Int)) (k93 : Nat) (i51 : Int) : Option (Bool ⊕ Int) := (if i51 < (x0.f5.length : Int) then (if 0 ≤ i51 ∧ i51 < (x0.f5.length : Int) then ((spec_LayerOk.g k93 (x0.f5.getD i51.toNat o86) x0.f0).bind fun t105 => (if t105 = true then (rec_ (wrap64 (i51 + 1))) else (some (Sum.inl false)))) else none) else (some (Sum.inr i51)))
def spec_ModelOk.l0 (x0 : S47) : Nat → Int → Option (Bool ⊕ Int)
  | 0, _ => none
  | k + 1, i51 => spec_ModelOk.b0 x0 (spec_ModelOk.l0 x0 k) k i51
def spec_ModelOk.g (k : Nat) (x0 : S47) : Option Bool := ((spec_l05Width.f x0.f0).bind fun t7 => (if t7 = true then (if x0.f1 = 1 then ((spec_MergesOk.f k x0.f3).bind fun t16 => (if t16 = true then ((spec_Vocab.g k x0).bind fun t24 => (if (x0.f4.length : Int) = t24 then ((spec_l01In.f (x0.f5.length : Int) 1 2).bind fun t32 => (if t32 = true then ((spec_ModelOk.l1 x0 k 0).bind (fun o110 => match o110 with | .inl r_ => some r_ | .inr i42 => ((spec_ModelOk.l0 x0 k 0).bind (fun o91 => match o91 with | .inl r_ => some r_ | .inr i51 => ((spec_GainOk.f k x0.f6 x0.f0).bind fun t60 => (if t60 = true then ((spec_Vocab.g k x0).bind fun t72 => ((spec_l10Matrix.g k x0.f7 x0.f0 t72).bind fun t75 => (if t75 = true then (if x0.f1 ≠ 0 then ((spec_TurnsOk.f k x0.f8.f0 x0.f8.f1 x0.f2 (wrap64 (Int.tdiv (wrap64 (Int.tdiv x0.f0 x0.f1)) 2))).bind fun t88 => (some t88)) else none) else (some false)))) else (some false))))))) else (some false))) else (some false))) else (some false))) else (if x0.f1 = 2 then ((spec_MergesOk.f k x0.f3).bind fun t140 => (if t140 = true then ((spec_Vocab.g k x0).bind fun t148 => (if (x0.f4.length : Int) = t148 then ((spec_l01In.f (x0.f5.length : Int) 1 2).bind fun t156 => (if t156 = true then ((spec_ModelOk.l3 x0 k 0).bind (fun o234 => match o234 with | .inl r_ => some r_ | .inr i166 => ((spec_ModelOk.l2 x0 k 0).bind (fun o215 => match o215 with | .inl r_ => some r_ | .inr i175 => ((spec_GainOk.f k x0.f6 x0.f0).bind fun t184 => (if t184 = true then ((spec_Vocab.g k x0).bind fun t196 => ((spec_l10Matrix.g k x0.f7 x0.f0 t196).bind fun t199 => (if t199 = true then (if x0.f1 ≠ 0 then ((spec_TurnsOk.f k x0.f8.f0 x0.f8.f1 x0.f2 (wrap64 (Int.tdiv (wrap64 (Int.tdiv x0.f0 x0.f1)) 2))).bind fun t212 => (some t212)) else none) else (some false)))) else (some false))))))) else (some false))) else (some false))) else (some false))) else (some false))) else (some false)))
theorem spec_ModelOk.runs (k : Nat) (cs0 : List Value) (x0 : S47) (r : Bool) (w : World) (hk0 : k47.K w x0 cs0) (H : spec_ModelOk.g k x0 = some r) :
    Calls Tryz.prog 19 #[.agg cs0.toArray] w fun e w' => e = .returned (.bool r) ∧ Below w.heap.size w w' := by
  have el0 : cs0.length = 14 := k47.K_len hk0
  unfold spec_ModelOk.g at H
  have HS : St (fun _ => True) w w [] [(fun W => k47.K W x0 cs0)] [] := St.start (foot_cons (foot_K h47 hk0) foot_nil)
  refine cw_ Tryz.func19 fun R_ hR_ => ?_
  refine sr_ fun _ hK1 => ?_
  refine bo_ HS (fun b2 w3 hb2 HS => ?_)
  refine as_ ?_
  refine dn_ hK1 ?_
  refine WC.seq fun _ hK4 => ?_
  refine WC.seq fun _ hK5 => ?_
  refine WC.drawS HS [] rfl rfl (fun w6 HS => ?_)
  have HB := Below.refl w6.heap.size w6
  have HSW := HS
  refine df_ 0 Tryz.underlying47 ?_
  refine bl_ 1 HS (Below.refl _ _) 0 Tryz.underlying3 (at47_0 (HS.aO 0 rfl)).int ?_
  obtain ⟨t7, ha8, H⟩ := bind_some H
  refine dcs0_ HS HB 2 (w_none rfl) Tryz.func39 (spec_l05Width.calls x0.f0 t7 _ ha8) (fun w9 HS HB => ?_)
  refine dp_ 3 (fun _ => Run.not rfl rfl) ?_
  refine dm_ 4 ?_
  rcases eti_ H with ⟨c10, H⟩ | ⟨c10, H⟩
  · refine doT_ 5 (nB (bF c10)) ?_
    refine doT_ 6 (nB (bF c10)) ?_
    refine doT_ 7 (nB (bF c10)) ?_
    refine doT_ 8 (nB (bF c10)) ?_
    refine du_ 9 ?_
    refine du_ 10 ?_
    refine du_ 11 ?_
    refine doT_ 12 (nB (bF c10)) ?_
    refine dp_ 13 (fun _ => Run.pickT rfl rfl (nB (bF c10)) rfl) ?_
    refine dm_ 14 ?_
    refine doT_ 15 rfl ?_
    refine doT_ 16 rfl ?_
    refine doT_ 17 rfl ?_
    refine doT_ 18 rfl ?_
    refine dp_ 19 (fun _ => Run.pickT rfl rfl rfl rfl) ?_
    refine dm_ 20 ?_
    refine doT_ 21 rfl ?_
    refine doT_ 22 rfl ?_
    refine doT_ 23 rfl ?_
    refine doT_ 24 rfl ?_
    refine doT_ 25 rfl ?_
    refine doT_ 26 rfl ?_
    refine dp_ 27 (fun _ => Run.pickT rfl rfl rfl rfl) ?_
    refine dm_ 28 ?_
    refine doT_ 29 rfl ?_
    refine doT_ 30 rfl ?_
    refine doT_ 31 rfl ?_
    refine doT_ 32 rfl ?_
    refine doT_ 33 rfl ?_
    refine dp_ 34 (fun _ => Run.pickT rfl rfl rfl rfl) ?_
    refine dd_ ?_
    clear HB HSW
    refine via_ hK5 ?_
    refine wy_ rfl ?_
    refine sr_ fun _ hK260 => ?_
    refine as_ ?_
    refine dn_ hK260 ?_
    cases H
    exact rt1 Tryz.f19 rfl rfl hR_ ⟨rfl, HS.b⟩
  refine dfg_ 5 (nB c10) Tryz.underlying47 ?_
  refine blg_ 6 (nB c10) HSW HB 0 Tryz.underlying3 (at47_1 (HSW.aO 0 rfl)).int ?_
  refine dg_ 7 (nB c10) (fun _ => Run.bin rfl rfl rfl bin_neq) ?_
  refine dg_ 8 (nB c10) (fun _ => Run.move rfl rfl) ?_
  rcases ite_ H with ⟨c11, H⟩ | ⟨c11, H⟩
  · refine doF_ 9 (qF c11) ?_
    refine doF_ 10 (qF c11) ?_
    refine doF_ 11 (qF c11) ?_
    refine dg_ 12 (nB c10) (fun _ => Run.pickF rfl rfl (qF c11) rfl) ?_
    refine dp_ 13 (fun _ => Run.pickF rfl rfl (nB c10) rfl) ?_
    refine dm_ 14 ?_
    refine dfg_ 15 rfl Tryz.underlying47 ?_
    obtain ⟨A12, c13, hc14, le15, HS⟩ := HS.sO 0 rfl at47_3
    refine blg_ 16 rfl HSW HB 0 Tryz.underlying42 hc14 ?_
    obtain ⟨t16, ha17, H⟩ := bind_some H
    refine dcs_ HS HB 17 (w_on rfl rfl rfl rfl) Tryz.func40 (spec_MergesOk.calls k A12 c13 x0.f3 t16 _ (HS.getO 0 rfl) le15 ha17) (fun w18 HS HB => ?_)
    refine dg_ 18 rfl (fun _ => Run.not rfl rfl) ?_
    refine dp_ 19 (fun _ => Run.pickF rfl rfl rfl rfl) ?_
    refine dm_ 20 ?_
    rcases eti_ H with ⟨c19, H⟩ | ⟨c19, H⟩
    · refine doT_ 21 (nB (bF c19)) ?_
      refine doT_ 22 (nB (bF c19)) ?_
      refine doT_ 23 (nB (bF c19)) ?_
      refine doT_ 24 (nB (bF c19)) ?_
      refine doT_ 25 (nB (bF c19)) ?_
      refine doT_ 26 (nB (bF c19)) ?_
      refine dp_ 27 (fun _ => Run.pickT rfl rfl (nB (bF c19)) rfl) ?_
      refine dm_ 28 ?_
      refine doT_ 29 rfl ?_
      refine doT_ 30 rfl ?_
      refine doT_ 31 rfl ?_
      refine doT_ 32 rfl ?_
      refine doT_ 33 rfl ?_
      refine dp_ 34 (fun _ => Run.pickT rfl rfl rfl rfl) ?_
      refine dd_ ?_
      clear HB HSW
      refine via_ hK5 ?_
      refine wy_ rfl ?_
      refine sr_ fun _ hK134 => ?_
      refine as_ ?_
      refine dn_ hK134 ?_
      cases H
      exact rt1 Tryz.f19 rfl rfl hR_ ⟨rfl, HS.b⟩
    refine dfg_ 21 (nB c19) Tryz.underlying47 ?_
    obtain ⟨A20, c21, hc22, le23, HS⟩ := HS.sO 1 rfl at47_4
    refine blg_ 22 (nB c19) HSW HB 0 Tryz.underlying26 hc22 ?_
    refine dg_ 23 (nB c19) (fun _ => Run.len (ts := #[]) rfl Tryz.underlying26 rfl) ?_
    refine dh_ 24 (nB c19) HB (fun w_ hw_ => Run.loadS (cs := cs0) rfl rfl Tryz.underlying47 rfl (by rw [el0]; kernel_rfl) (box_part ((HSW.below hw_).mu 0 rfl) part_all)) ?_
    obtain ⟨t24, ha25, H⟩ := bind_some H
    refine dcs_ HS HB 25 (w_on rfl rfl rfl (nB c19)) Tryz.func41 (spec_Vocab.runs k cs0 x0 t24 _ (HS.getO 2 rfl) ha25) (fun w26 HS HB => ?_)
    refine dg_ 26 (nB c19) (fun _ => Run.bin rfl rfl rfl bin_neq) ?_
    refine dp_ 27 (fun _ => Run.pickF rfl rfl (nB c19) rfl) ?_
    refine dm_ 28 ?_
    rcases eti_ H with ⟨c27, H⟩ | ⟨c27, H⟩
    · refine doT_ 29 (qT c27) ?_
      refine doT_ 30 (qT c27) ?_
      refine doT_ 31 (qT c27) ?_
      refine doT_ 32 (qT c27) ?_
      refine doT_ 33 (qT c27) ?_
      refine dp_ 34 (fun _ => Run.pickT rfl rfl (qT c27) rfl) ?_
      refine dd_ ?_
      clear HB HSW
      refine via_ hK5 ?_
      refine wy_ rfl ?_
      refine sr_ fun _ hK133 => ?_
      refine as_ ?_
      refine dn_ hK133 ?_
      cases H
      exact rt1 Tryz.f19 rfl rfl hR_ ⟨rfl, HS.b⟩
    refine dfg_ 29 (qF c27) Tryz.underlying47 ?_
    obtain ⟨A28, c29, hc30, le31, HS⟩ := HS.sO 2 rfl at47_5
    refine blg_ 30 (qF c27) HSW HB 0 Tryz.underlying43 hc30 ?_
    refine dg_ 31 (qF c27) (fun _ => Run.len (ts := #[]) rfl Tryz.underlying43 rfl) ?_
    obtain ⟨t32, ha33, H⟩ := bind_some H
    refine dcs0_ HS HB 32 (w_on rfl rfl rfl (qF c27)) Tryz.func42 (spec_l01In.calls (x0.f5.length : Int) 1 2 t32 _ ha33) (fun w34 HS HB => ?_)
    refine dg_ 33 (qF c27) (fun _ => Run.not rfl rfl) ?_
    refine dp_ 34 (fun _ => Run.pickF rfl rfl (qF c27) rfl) ?_
    refine dd_ ?_
    clear HB HSW
    refine via_ hK5 ?_
    rcases eti_ H with ⟨c35, H⟩ | ⟨c35, H⟩
    · refine wy_ (nB (bF c35)) ?_
      refine sr_ fun _ hK132 => ?_
      refine as_ ?_
      refine dn_ hK132 ?_
      cases H
      exact rt1 Tryz.f19 rfl rfl hR_ ⟨rfl, HS.b⟩
    refine wn_ (nB c35) ?_
    refine WC.skip ?_
    refine via_ hK4 ?_
    refine WC.seq fun K36 hK36 => ?_
    refine sr_ fun _ hK37 => ?_
    refine as_ ?_
    refine dn_ hK37 ?_
    refine WC.block ?_
    obtain ⟨G38, hG39, o40, H, Ho41⟩ := open_G H
    have X43 : ∀ E_ W_, (∃ (i42 : Int), E_ = [(1, .pointer (some ⟨b2, 0, none⟩)), (3, .int .i64 i42)] ∧ G38 (Sum.inr i42) = some r ∧ St (fun _ => True) w W_ [boxM b2 cs0.toArray 47] [(fun W => k86.C W A28 x0.f5.length x0.f5), (fun W => (Kd.slice 3 (Kd.int .i64)).C W A20 x0.f4.length x0.f4), (fun W => k94.C W A12 x0.f3.length x0.f3), (fun W => k47.K W x0 cs0)] []) → ∀ a, Fits a 108 E_ → K36 a W_ := by
      rintro E_ w44 ⟨i42, rfl, H, HS⟩
      rw [hG39] at H
      (try dsimp only at H)
      refine hK36 _ _ ?_
      refine WC.seq fun K45 hK45 => ?_
      refine sr_ fun _ hK46 => ?_
      refine as_ ?_
      refine dn_ hK46 ?_
      refine WC.block ?_
      obtain ⟨G47, hG48, o49, H, Ho50⟩ := open_G H
      have X52 : ∀ E_ W_, (∃ (i51 : Int), E_ = [(1, .pointer (some ⟨b2, 0, none⟩)), (4, .int .i64 i51)] ∧ G47 (Sum.inr i51) = some r ∧ St (fun _ => True) w W_ [boxM b2 cs0.toArray 47] [(fun W => k86.C W A28 x0.f5.length x0.f5), (fun W => (Kd.slice 3 (Kd.int .i64)).C W A20 x0.f4.length x0.f4), (fun W => k94.C W A12 x0.f3.length x0.f3), (fun W => k47.K W x0 cs0)] []) → ∀ a, Fits a 108 E_ → K45 a W_ := by
        rintro E_ w53 ⟨i51, rfl, H, HS⟩
        rw [hG48] at H
        (try dsimp only at H)
        refine hK45 _ _ ?_
        refine WC.seq fun _ hK54 => ?_
        refine WC.drawS HS [] rfl rfl (fun w55 HS => ?_)
        have HB := Below.refl w55.heap.size w55
        have HSW := HS
        refine df_ 0 Tryz.underlying47 ?_
        refine df_ 2 Tryz.underlying47 ?_
        obtain ⟨A56, c57, hc58, le59, HS⟩ := HS.sO 3 rfl at47_6
        refine bl_ 1 HS (Below.refl _ _) 0 Tryz.underlying28 hc58 ?_
        refine bl_ 3 HS (Below.refl _ _) 0 Tryz.underlying3 (at47_0 (HS.aO 4 rfl)).int ?_
        obtain ⟨t60, ha61, H⟩ := bind_some H
        refine dcs0_ HS HB 4 (w_none rfl) Tryz.func45 (spec_GainOk.calls k A56 c57 x0.f6 x0.f0 t60 _ (HS.getO 0 rfl) le59 ha61) (fun w62 HS HB => ?_)
        refine dm_ 5 ?_
        rcases eti_ H with ⟨c63, H⟩ | ⟨c63, H⟩
        · refine doF_ 6 (bF c63) ?_
          refine doF_ 7 (bF c63) ?_
          refine doF_ 8 (bF c63) ?_
          refine doF_ 9 (bF c63) ?_
          refine doF_ 10 (bF c63) ?_
          refine doF_ 11 (bF c63) ?_
          refine doF_ 12 (bF c63) ?_
          refine dp_ 13 (fun _ => Run.pickF rfl rfl (bF c63) rfl) ?_
          refine dm_ 14 ?_
          refine doF_ 15 rfl ?_
          refine doF_ 16 rfl ?_
          refine doF_ 17 rfl ?_
          refine doF_ 18 rfl ?_
          refine doF_ 19 rfl ?_
          refine doF_ 20 rfl ?_
          refine doF_ 21 rfl ?_
          refine doF_ 22 rfl ?_
          refine doF_ 23 rfl ?_
          refine doF_ 24 rfl ?_
          refine doF_ 25 rfl ?_
          refine dp_ 26 (fun _ => Run.pickF rfl rfl rfl rfl) ?_
          refine dp_ 27 (fun _ => Run.assign rfl rfl) ?_
          refine dd_ ?_
          clear HB HSW
          refine via_ hK54 ?_
          cases H
          exact rt1 Tryz.f19 rfl rfl hR_ ⟨rfl, HS.b⟩
        refine dfg_ 6 c63 Tryz.underlying47 ?_
        refine dfg_ 8 c63 Tryz.underlying47 ?_
        obtain ⟨A64, c65, hc66, le67, HS⟩ := HS.sO 4 rfl at47_8
        obtain ⟨A68, c69, hc70, le71, HS⟩ := HS.sO 5 rfl at47_9
        refine dh_ 7 c63 HB (fun w_ hw_ => Run.loadS (cs := [.int .i64 x0.f7.f0, .slice A64 x0.f7.f1.length c65, .slice A68 x0.f7.f2.length c69, .int .i64 x0.f7.f3, .int .i64 x0.f7.f4]) rfl rfl Tryz.underlying44 rfl (by kernel_rfl) (box_part ((HSW.below hw_).mu 0 rfl) (part_cons (at47_7 ((HSW.below hw_).aO 3 rfl)).int (part_cons hc66 (part_cons hc70 (part_cons (at47_10 ((HSW.below hw_).aO 3 rfl)).int (part_cons (at47_11 ((HSW.below hw_).aO 3 rfl)).int part_nil))))))) ?_
        refine blg_ 9 c63 HSW HB 0 Tryz.underlying3 (at47_0 (HSW.aO 3 rfl)).int ?_
        refine dh_ 10 c63 HB (fun w_ hw_ => Run.loadS (cs := cs0) rfl rfl Tryz.underlying47 rfl (by rw [el0]; kernel_rfl) (box_part ((HSW.below hw_).mu 0 rfl) part_all)) ?_
        obtain ⟨t72, ha73, H⟩ := bind_some H
        refine dcs_ HS HB 11 (w_on rfl rfl rfl c63) Tryz.func41 (spec_Vocab.runs k cs0 x0 t72 _ (HS.getO 6 rfl) ha73) (fun w74 HS HB => ?_)
        obtain ⟨t75, ha76, H⟩ := bind_some H
        refine dcs_ HS HB 12 (w_on rfl rfl rfl c63) Tryz.func46 (spec_l10Matrix.runs k x0.f7 A64 c65 A68 c69 x0.f0 t72 t75 _ (HS.getO 1 rfl) le67 (HS.getO 0 rfl) le71 ha76) (fun w77 HS HB => ?_)
        refine dp_ 13 (fun _ => Run.pickT rfl rfl c63 rfl) ?_
        refine dm_ 14 ?_
        rcases eti_ H with ⟨c78, H⟩ | ⟨c78, H⟩
        · refine doF_ 15 (bF c78) ?_
          refine doF_ 16 (bF c78) ?_
          refine doF_ 17 (bF c78) ?_
          refine doF_ 18 (bF c78) ?_
          refine doF_ 19 (bF c78) ?_
          refine doF_ 20 (bF c78) ?_
          refine doF_ 21 (bF c78) ?_
          refine doF_ 22 (bF c78) ?_
          refine doF_ 23 (bF c78) ?_
          refine doF_ 24 (bF c78) ?_
          refine doF_ 25 (bF c78) ?_
          refine dp_ 26 (fun _ => Run.pickF rfl rfl (bF c78) rfl) ?_
          refine dp_ 27 (fun _ => Run.assign rfl rfl) ?_
          refine dd_ ?_
          clear HB HSW
          refine via_ hK54 ?_
          cases H
          exact rt1 Tryz.f19 rfl rfl hR_ ⟨rfl, HS.b⟩
        refine dfg_ 15 c78 Tryz.underlying47 ?_
        refine dfg_ 17 c78 Tryz.underlying47 ?_
        refine dfg_ 19 c78 Tryz.underlying47 ?_
        refine dfg_ 21 c78 Tryz.underlying47 ?_
        obtain ⟨A79, c80, hc81, le82, HS⟩ := HS.sO 6 rfl at47_12
        obtain ⟨A83, c84, hc85, le86, HS⟩ := HS.sO 7 rfl at47_13
        refine dh_ 16 c78 HB (fun w_ hw_ => Run.loadS (cs := [.slice A79 x0.f8.f0.length c80, .slice A83 x0.f8.f1.length c84]) rfl rfl Tryz.underlying45 rfl (by kernel_rfl) (box_part ((HSW.below hw_).mu 0 rfl) (part_cons hc81 (part_cons hc85 part_nil)))) ?_
        refine blg_ 18 c78 HSW HB 0 Tryz.underlying3 (at47_2 (HSW.aO 3 rfl)).int ?_
        refine blg_ 20 c78 HSW HB 0 Tryz.underlying3 (at47_0 (HSW.aO 3 rfl)).int ?_
        refine blg_ 22 c78 HSW HB 0 Tryz.underlying3 (at47_1 (HSW.aO 3 rfl)).int ?_
        obtain ⟨z87, H⟩ := if_some H
        refine dg_ 23 c78 (fun _ => Run.bin rfl rfl rfl (bin_quo64 z87)) ?_
        refine dg_ 24 c78 (fun _ => Run.bin rfl rfl rfl (bin_quo64 (show (2 : Int) ≠ 0 by decide))) ?_
        obtain ⟨t88, ha89, H⟩ := bind_some H
        refine dcs_ HS HB 25 (w_on rfl rfl rfl c78) Tryz.func47 (spec_TurnsOk.calls k A79 c80 x0.f8.f0 A83 c84 x0.f8.f1 x0.f2 (wrap64 (Int.tdiv (wrap64 (Int.tdiv x0.f0 x0.f1)) 2)) t88 _ (HS.getO 1 rfl) le82 (HS.getO 0 rfl) le86 ha89) (fun w90 HS HB => ?_)
        refine dp_ 26 (fun _ => Run.pickT rfl rfl c78 rfl) ?_
        refine dp_ 27 (fun _ => Run.assign rfl rfl) ?_
        refine dd_ ?_
        clear HB HSW
        refine via_ hK54 ?_
        cases H
        exact rt1 Tryz.f19 rfl rfl hR_ ⟨rfl, HS.b⟩
      refine WC.loop (fun k_ E_ W_ => ∃ (i51 : Int), E_ = [(1, .pointer (some ⟨b2, 0, none⟩)), (4, .int .i64 i51)] ∧ (∃ o_, spec_ModelOk.l0 x0 k_ i51 = some o_ ∧ G47 o_ = some r) ∧ St (fun _ => True) w W_ [boxM b2 cs0.toArray 47] [(fun W => k86.C W A28 x0.f5.length x0.f5), (fun W => (Kd.slice 3 (Kd.int .i64)).C W A20 x0.f4.length x0.f4), (fun W => k94.C W A12 x0.f3.length x0.f3), (fun W => k47.K W x0 cs0)] []) k ⟨0, rfl, ⟨_, H, Ho50⟩, (St.pick HS (fun W_ h_ => ⟨AllF.get 0 rfl h_, AllF.get 1 rfl h_, AllF.get 2 rfl h_, AllF.get 3 rfl h_, trivial⟩) (fun W_ h_ => trivial))⟩ ⟨rfl, rfl, trivial⟩ ?_
      rintro k_ E_ w92 ⟨i51, rfl, ⟨o49, H, Ho50⟩, HS⟩
      rcases k_ with _ | k93
      · exact no_ H
      replace H : spec_ModelOk.b0 x0 (spec_ModelOk.l0 x0 k93) k93 i51 = some o49 := H
      unfold spec_ModelOk.b0 at H
      refine WC.seq fun _ hK94 => ?_
      refine sr_ fun _ hK95 => ?_
      refine mv_ ?_
      refine v_ (fa_ Tryz.underlying47) ?_
      refine v_ (lb_ (HS.mu 0 rfl) Tryz.underlying43 hc30) ?_
      refine ln_ Tryz.underlying43 ?_
      refine b_ bin_lss ?_
      refine dn_ hK95 ?_
      rcases eti_ H with ⟨c96, H⟩ | ⟨c96, H⟩
      · refine wn_ (dF c96) ?_
        refine WC.exit ?_
        cases H
        exact WQ.via2 (fun _ _ h_ => h_) X52 ⟨i51, rfl, Ho50, (St.pick HS (fun W_ h_ => ⟨AllF.get 0 rfl h_, AllF.get 1 rfl h_, AllF.get 2 rfl h_, AllF.get 3 rfl h_, trivial⟩) (fun W_ h_ => trivial))⟩ ⟨rfl, rfl, trivial⟩
      refine wy_ (dT c96) ?_
      refine WC.skip ?_
      refine via_ hK94 ?_
      refine WC.seq fun _ hK97 => ?_
      refine WC.block ?_
      refine WC.seq fun _ hK98 => ?_
      refine WC.drawS HS [] rfl rfl (fun w99 HS => ?_)
      have HB := Below.refl w99.heap.size w99
      have HSW := HS
      refine df_ 0 Tryz.underlying47 ?_
      refine dm_ 2 ?_
      refine df_ 5 Tryz.underlying47 ?_
      refine bl_ 1 HS (Below.refl _ _) 0 Tryz.underlying43 hc30 ?_
      obtain ⟨⟨q100, q101⟩, H⟩ := if_some H
      obtain ⟨ad102, rfl⟩ := C_open (HS.getO 0 rfl) (by omega)
      refine di_ 3 Tryz.underlying43 32 q100 q101 ?_
      obtain ⟨e103, el104, HS⟩ := HS.elO 0 rfl (by decide) o86 i51 q100 q101
      replace HS := HS.deriveO (p := (fun W => k86.K W (x0.f5.getD i51.toNat o86) e103)) (fun W_ hO_ hN_ => (AllF.get 0 rfl hO_).1)
      refine dt_ 4 (Below.refl _ _) (fun w_ hw_ => Run.loadS (cs := e103) rfl rfl Tryz.underlying86 rfl (by rw [el104]; kernel_rfl) ((HS.below hw_).getO 1 rfl).2) ?_
      refine bl_ 6 HS (Below.refl _ _) 0 Tryz.underlying3 (at47_0 (HS.aO 5 rfl)).int ?_
      obtain ⟨t105, ha106, H⟩ := bind_some H
      refine dcs_ HS HB 7 (w_none rfl) Tryz.func44 (spec_LayerOk.runs k93 e103 (x0.f5.getD i51.toNat o86) x0.f0 t105 _ (HS.getO 0 rfl) ha106) (fun w107 HS HB => ?_)
      refine dp_ 8 (fun _ => Run.not rfl rfl) ?_
      refine dd_ ?_
      clear HB HSW
      refine via_ hK98 ?_
      rcases eti_ H with ⟨c108, H⟩ | ⟨c108, H⟩
      · refine wy_ (nB (bF c108)) ?_
        refine sr_ fun _ hK109 => ?_
        refine as_ ?_
        refine dn_ hK109 ?_
        refine WC.ret ?_
        cases H
        rw [hG48] at Ho50
        replace H : some _ = some _ := Ho50
        cases H
        exact fin1 Tryz.f19 rfl rfl hR_ ⟨rfl, HS.b⟩
      refine wn_ (nB c108) ?_
      refine WC.skip ?_
      refine via_ hK97 ?_
      refine rg_ ?_
      refine mv_ ?_
      refine b_ bin_add64 ?_
      refine as_ ?_
      refine WL.done ?_
      exact WQ.round k93 (fun _ _ h_ => h_) (Nat.lt_succ_self _) ⟨(wrap64 (i51 + 1)), rfl, ⟨_, H, Ho50⟩, (St.pick HS (fun W_ h_ => ⟨AllF.get 2 rfl h_, AllF.get 3 rfl h_, AllF.get 4 rfl h_, AllF.get 5 rfl h_, trivial⟩) (fun W_ h_ => trivial))⟩ ⟨rfl, rfl, trivial⟩
    refine WC.loop (fun k_ E_ W_ => ∃ (i42 : Int), E_ = [(1, .pointer (some ⟨b2, 0, none⟩)), (3, .int .i64 i42)] ∧ (∃ o_, spec_ModelOk.l1 x0 k_ i42 = some o_ ∧ G38 o_ = some r) ∧ St (fun _ => True) w W_ [boxM b2 cs0.toArray 47] [(fun W => k86.C W A28 x0.f5.length x0.f5), (fun W => (Kd.slice 3 (Kd.int .i64)).C W A20 x0.f4.length x0.f4), (fun W => k94.C W A12 x0.f3.length x0.f3), (fun W => k47.K W x0 cs0)] []) k ⟨0, rfl, ⟨_, H, Ho41⟩, (St.pick HS (fun W_ h_ => ⟨AllF.get 0 rfl h_, AllF.get 1 rfl h_, AllF.get 2 rfl h_, AllF.get 3 rfl h_, trivial⟩) (fun W_ h_ => trivial))⟩ ⟨rfl, rfl, trivial⟩ ?_
    rintro k_ E_ w111 ⟨i42, rfl, ⟨o40, H, Ho41⟩, HS⟩
    rcases k_ with _ | k112
    · exact no_ H
    replace H : spec_ModelOk.b1 x0 (spec_ModelOk.l1 x0 k112) k112 i42 = some o40 := H
    unfold spec_ModelOk.b1 at H
    refine WC.seq fun _ hK113 => ?_
    refine sr_ fun _ hK114 => ?_
    refine mv_ ?_
    refine v_ (fa_ Tryz.underlying47) ?_
    refine v_ (lb_ (HS.mu 0 rfl) Tryz.underlying26 hc22) ?_
    refine ln_ Tryz.underlying26 ?_
    refine b_ bin_lss ?_
    refine dn_ hK114 ?_
    rcases eti_ H with ⟨c115, H⟩ | ⟨c115, H⟩
    · refine wn_ (dF c115) ?_
      refine WC.exit ?_
      cases H
      exact WQ.via2 (fun _ _ h_ => h_) X43 ⟨i42, rfl, Ho41, (St.pick HS (fun W_ h_ => ⟨AllF.get 0 rfl h_, AllF.get 1 rfl h_, AllF.get 2 rfl h_, AllF.get 3 rfl h_, trivial⟩) (fun W_ h_ => trivial))⟩ ⟨rfl, rfl, trivial⟩
    refine wy_ (dT c115) ?_
    refine WC.skip ?_
    refine via_ hK113 ?_
    refine WC.seq fun _ hK116 => ?_
    refine WC.block ?_
    refine WC.seq fun _ hK117 => ?_
    refine WC.drawS HS [] rfl rfl (fun w118 HS => ?_)
    have HB := Below.refl w118.heap.size w118
    have HSW := HS
    refine df_ 0 Tryz.underlying47 ?_
    refine dm_ 2 ?_
    refine df_ 6 Tryz.underlying47 ?_
    refine bl_ 1 HS (Below.refl _ _) 0 Tryz.underlying26 hc22 ?_
    obtain ⟨⟨q119, q120⟩, H⟩ := if_some H
    obtain ⟨ad121, rfl⟩ := C_open (HS.getO 1 rfl) (by omega)
    refine di_ 3 Tryz.underlying26 1 q119 q120 ?_
    obtain ⟨A122, c123, le124, HS⟩ := HS.slO 1 rfl i42 q119 q120
    refine dt_ 4 (Below.refl _ _) (fun w_ hw_ => Run.load rfl rfl Tryz.underlying28 rfl ((HS.below hw_).getO 1 rfl)) ?_
    refine dp_ 5 (fun _ => Run.len (ts := #[]) rfl Tryz.underlying28 rfl) ?_
    refine bl_ 7 HS (Below.refl _ _) 0 Tryz.underlying3 (at47_0 (HS.aO 5 rfl)).int ?_
    refine dp_ 8 (fun _ => Run.bin rfl rfl rfl bin_neq) ?_
    refine dm_ 9 ?_
    rcases eti_ H with ⟨c125, H⟩ | ⟨c125, H⟩
    · refine doT_ 10 (qT c125) ?_
      refine doT_ 11 (qT c125) ?_
      refine doT_ 12 (qT c125) ?_
      refine doT_ 13 (qT c125) ?_
      refine doT_ 14 (qT c125) ?_
      refine doT_ 15 (qT c125) ?_
      refine doT_ 16 (qT c125) ?_
      refine dp_ 17 (fun _ => Run.pickT rfl rfl (qT c125) rfl) ?_
      refine dd_ ?_
      clear HB HSW
      refine via_ hK117 ?_
      refine wy_ rfl ?_
      refine sr_ fun _ hK131 => ?_
      refine as_ ?_
      refine dn_ hK131 ?_
      refine WC.ret ?_
      cases H
      rw [hG39] at Ho41
      replace H : some _ = some _ := Ho41
      cases H
      exact fin1 Tryz.f19 rfl rfl hR_ ⟨rfl, HS.b⟩
    refine dfg_ 10 (qF c125) Tryz.underlying47 ?_
    refine dg_ 12 (qF c125) (fun _ => Run.move rfl rfl) ?_
    refine blg_ 11 (qF c125) HS (Below.refl _ _) 0 Tryz.underlying26 hc22 ?_
    refine dg_ 13 (qF c125) (fun _ => Run.indexAddr rfl rfl rfl Tryz.underlying26 (sz := 1) (by kernel_rfl) q119 q120) ?_
    refine dh_ 14 (qF c125) (Below.refl _ _) (fun w_ hw_ => Run.load rfl rfl Tryz.underlying28 rfl ((HS.below hw_).getO 1 rfl)) ?_
    obtain ⟨t126, ha127, H⟩ := bind_some H
    refine dcs0_ HS HB 15 (w_on rfl rfl rfl (qF c125)) Tryz.func43 (spec_l05All.calls k112 A122 c123 (x0.f4.getD i42.toNat []) (-127) 127 t126 _ (HS.getO 0 rfl) le124 ha127) (fun w128 HS HB => ?_)
    refine dg_ 16 (qF c125) (fun _ => Run.not rfl rfl) ?_
    refine dp_ 17 (fun _ => Run.pickF rfl rfl (qF c125) rfl) ?_
    refine dd_ ?_
    clear HB HSW
    refine via_ hK117 ?_
    rcases eti_ H with ⟨c129, H⟩ | ⟨c129, H⟩
    · refine wy_ (nB (bF c129)) ?_
      refine sr_ fun _ hK130 => ?_
      refine as_ ?_
      refine dn_ hK130 ?_
      refine WC.ret ?_
      cases H
      rw [hG39] at Ho41
      replace H : some _ = some _ := Ho41
      cases H
      exact fin1 Tryz.f19 rfl rfl hR_ ⟨rfl, HS.b⟩
    refine wn_ (nB c129) ?_
    refine WC.skip ?_
    refine via_ hK116 ?_
    refine rg_ ?_
    refine mv_ ?_
    refine b_ bin_add64 ?_
    refine as_ ?_
    refine WL.done ?_
    exact WQ.round k112 (fun _ _ h_ => h_) (Nat.lt_succ_self _) ⟨(wrap64 (i42 + 1)), rfl, ⟨_, H, Ho41⟩, (St.pick HS (fun W_ h_ => ⟨AllF.get 2 rfl h_, AllF.get 3 rfl h_, AllF.get 4 rfl h_, AllF.get 5 rfl h_, trivial⟩) (fun W_ h_ => trivial))⟩ ⟨rfl, rfl, trivial⟩
  refine dfg_ 9 (qT c11) Tryz.underlying47 ?_
  refine blg_ 10 (qT c11) HSW HB 0 Tryz.underlying3 (at47_1 (HSW.aO 0 rfl)).int ?_
  refine dg_ 11 (qT c11) (fun _ => Run.bin rfl rfl rfl bin_neq) ?_
  refine dg_ 12 (nB c10) (fun _ => Run.pickT rfl rfl (qT c11) rfl) ?_
  refine dp_ 13 (fun _ => Run.pickF rfl rfl (nB c10) rfl) ?_
  refine dm_ 14 ?_
  rcases eti_ H with ⟨c135, H⟩ | ⟨c135, H⟩
  · refine doT_ 15 (qT c135) ?_
    refine doT_ 16 (qT c135) ?_
    refine doT_ 17 (qT c135) ?_
    refine doT_ 18 (qT c135) ?_
    refine dp_ 19 (fun _ => Run.pickT rfl rfl (qT c135) rfl) ?_
    refine dm_ 20 ?_
    refine doT_ 21 rfl ?_
    refine doT_ 22 rfl ?_
    refine doT_ 23 rfl ?_
    refine doT_ 24 rfl ?_
    refine doT_ 25 rfl ?_
    refine doT_ 26 rfl ?_
    refine dp_ 27 (fun _ => Run.pickT rfl rfl rfl rfl) ?_
    refine dm_ 28 ?_
    refine doT_ 29 rfl ?_
    refine doT_ 30 rfl ?_
    refine doT_ 31 rfl ?_
    refine doT_ 32 rfl ?_
    refine doT_ 33 rfl ?_
    refine dp_ 34 (fun _ => Run.pickT rfl rfl rfl rfl) ?_
    refine dd_ ?_
    clear HB HSW
    refine via_ hK5 ?_
    refine wy_ rfl ?_
    refine sr_ fun _ hK259 => ?_
    refine as_ ?_
    refine dn_ hK259 ?_
    cases H
    exact rt1 Tryz.f19 rfl rfl hR_ ⟨rfl, HS.b⟩
  refine dfg_ 15 (qF c135) Tryz.underlying47 ?_
  obtain ⟨A136, c137, hc138, le139, HS⟩ := HS.sO 0 rfl at47_3
  refine blg_ 16 (qF c135) HSW HB 0 Tryz.underlying42 hc138 ?_
  obtain ⟨t140, ha141, H⟩ := bind_some H
  refine dcs_ HS HB 17 (w_on rfl rfl rfl (qF c135)) Tryz.func40 (spec_MergesOk.calls k A136 c137 x0.f3 t140 _ (HS.getO 0 rfl) le139 ha141) (fun w142 HS HB => ?_)
  refine dg_ 18 (qF c135) (fun _ => Run.not rfl rfl) ?_
  refine dp_ 19 (fun _ => Run.pickF rfl rfl (qF c135) rfl) ?_
  refine dm_ 20 ?_
  rcases eti_ H with ⟨c143, H⟩ | ⟨c143, H⟩
  · refine doT_ 21 (nB (bF c143)) ?_
    refine doT_ 22 (nB (bF c143)) ?_
    refine doT_ 23 (nB (bF c143)) ?_
    refine doT_ 24 (nB (bF c143)) ?_
    refine doT_ 25 (nB (bF c143)) ?_
    refine doT_ 26 (nB (bF c143)) ?_
    refine dp_ 27 (fun _ => Run.pickT rfl rfl (nB (bF c143)) rfl) ?_
    refine dm_ 28 ?_
    refine doT_ 29 rfl ?_
    refine doT_ 30 rfl ?_
    refine doT_ 31 rfl ?_
    refine doT_ 32 rfl ?_
    refine doT_ 33 rfl ?_
    refine dp_ 34 (fun _ => Run.pickT rfl rfl rfl rfl) ?_
    refine dd_ ?_
    clear HB HSW
    refine via_ hK5 ?_
    refine wy_ rfl ?_
    refine sr_ fun _ hK258 => ?_
    refine as_ ?_
    refine dn_ hK258 ?_
    cases H
    exact rt1 Tryz.f19 rfl rfl hR_ ⟨rfl, HS.b⟩
  refine dfg_ 21 (nB c143) Tryz.underlying47 ?_
  obtain ⟨A144, c145, hc146, le147, HS⟩ := HS.sO 1 rfl at47_4
  refine blg_ 22 (nB c143) HSW HB 0 Tryz.underlying26 hc146 ?_
  refine dg_ 23 (nB c143) (fun _ => Run.len (ts := #[]) rfl Tryz.underlying26 rfl) ?_
  refine dh_ 24 (nB c143) HB (fun w_ hw_ => Run.loadS (cs := cs0) rfl rfl Tryz.underlying47 rfl (by rw [el0]; kernel_rfl) (box_part ((HSW.below hw_).mu 0 rfl) part_all)) ?_
  obtain ⟨t148, ha149, H⟩ := bind_some H
  refine dcs_ HS HB 25 (w_on rfl rfl rfl (nB c143)) Tryz.func41 (spec_Vocab.runs k cs0 x0 t148 _ (HS.getO 2 rfl) ha149) (fun w150 HS HB => ?_)
  refine dg_ 26 (nB c143) (fun _ => Run.bin rfl rfl rfl bin_neq) ?_
  refine dp_ 27 (fun _ => Run.pickF rfl rfl (nB c143) rfl) ?_
  refine dm_ 28 ?_
  rcases eti_ H with ⟨c151, H⟩ | ⟨c151, H⟩
  · refine doT_ 29 (qT c151) ?_
    refine doT_ 30 (qT c151) ?_
    refine doT_ 31 (qT c151) ?_
    refine doT_ 32 (qT c151) ?_
    refine doT_ 33 (qT c151) ?_
    refine dp_ 34 (fun _ => Run.pickT rfl rfl (qT c151) rfl) ?_
    refine dd_ ?_
    clear HB HSW
    refine via_ hK5 ?_
    refine wy_ rfl ?_
    refine sr_ fun _ hK257 => ?_
    refine as_ ?_
    refine dn_ hK257 ?_
    cases H
    exact rt1 Tryz.f19 rfl rfl hR_ ⟨rfl, HS.b⟩
  refine dfg_ 29 (qF c151) Tryz.underlying47 ?_
  obtain ⟨A152, c153, hc154, le155, HS⟩ := HS.sO 2 rfl at47_5
  refine blg_ 30 (qF c151) HSW HB 0 Tryz.underlying43 hc154 ?_
  refine dg_ 31 (qF c151) (fun _ => Run.len (ts := #[]) rfl Tryz.underlying43 rfl) ?_
  obtain ⟨t156, ha157, H⟩ := bind_some H
  refine dcs0_ HS HB 32 (w_on rfl rfl rfl (qF c151)) Tryz.func42 (spec_l01In.calls (x0.f5.length : Int) 1 2 t156 _ ha157) (fun w158 HS HB => ?_)
  refine dg_ 33 (qF c151) (fun _ => Run.not rfl rfl) ?_
  refine dp_ 34 (fun _ => Run.pickF rfl rfl (qF c151) rfl) ?_
  refine dd_ ?_
  clear HB HSW
  refine via_ hK5 ?_
  rcases eti_ H with ⟨c159, H⟩ | ⟨c159, H⟩
  · refine wy_ (nB (bF c159)) ?_
    refine sr_ fun _ hK256 => ?_
    refine as_ ?_
    refine dn_ hK256 ?_
    cases H
    exact rt1 Tryz.f19 rfl rfl hR_ ⟨rfl, HS.b⟩
  refine wn_ (nB c159) ?_
  refine WC.skip ?_
  refine via_ hK4 ?_
  refine WC.seq fun K160 hK160 => ?_
  refine sr_ fun _ hK161 => ?_
  refine as_ ?_
  refine dn_ hK161 ?_
  refine WC.block ?_
  obtain ⟨G162, hG163, o164, H, Ho165⟩ := open_G H
  have X167 : ∀ E_ W_, (∃ (i166 : Int), E_ = [(1, .pointer (some ⟨b2, 0, none⟩)), (3, .int .i64 i166)] ∧ G162 (Sum.inr i166) = some r ∧ St (fun _ => True) w W_ [boxM b2 cs0.toArray 47] [(fun W => k86.C W A152 x0.f5.length x0.f5), (fun W => (Kd.slice 3 (Kd.int .i64)).C W A144 x0.f4.length x0.f4), (fun W => k94.C W A136 x0.f3.length x0.f3), (fun W => k47.K W x0 cs0)] []) → ∀ a, Fits a 108 E_ → K160 a W_ := by
    rintro E_ w168 ⟨i166, rfl, H, HS⟩
    rw [hG163] at H
    (try dsimp only at H)
    refine hK160 _ _ ?_
    refine WC.seq fun K169 hK169 => ?_
    refine sr_ fun _ hK170 => ?_
    refine as_ ?_
    refine dn_ hK170 ?_
    refine WC.block ?_
    obtain ⟨G171, hG172, o173, H, Ho174⟩ := open_G H
    have X176 : ∀ E_ W_, (∃ (i175 : Int), E_ = [(1, .pointer (some ⟨b2, 0, none⟩)), (4, .int .i64 i175)] ∧ G171 (Sum.inr i175) = some r ∧ St (fun _ => True) w W_ [boxM b2 cs0.toArray 47] [(fun W => k86.C W A152 x0.f5.length x0.f5), (fun W => (Kd.slice 3 (Kd.int .i64)).C W A144 x0.f4.length x0.f4), (fun W => k94.C W A136 x0.f3.length x0.f3), (fun W => k47.K W x0 cs0)] []) → ∀ a, Fits a 108 E_ → K169 a W_ := by
      rintro E_ w177 ⟨i175, rfl, H, HS⟩
      rw [hG172] at H
      (try dsimp only at H)
      refine hK169 _ _ ?_
      refine WC.seq fun _ hK178 => ?_
      refine WC.drawS HS [] rfl rfl (fun w179 HS => ?_)
      have HB := Below.refl w179.heap.size w179
      have HSW := HS
      refine df_ 0 Tryz.underlying47 ?_
      refine df_ 2 Tryz.underlying47 ?_
      obtain ⟨A180, c181, hc182, le183, HS⟩ := HS.sO 3 rfl at47_6
      refine bl_ 1 HS (Below.refl _ _) 0 Tryz.underlying28 hc182 ?_
      refine bl_ 3 HS (Below.refl _ _) 0 Tryz.underlying3 (at47_0 (HS.aO 4 rfl)).int ?_
      obtain ⟨t184, ha185, H⟩ := bind_some H
      refine dcs0_ HS HB 4 (w_none rfl) Tryz.func45 (spec_GainOk.calls k A180 c181 x0.f6 x0.f0 t184 _ (HS.getO 0 rfl) le183 ha185) (fun w186 HS HB => ?_)
      refine dm_ 5 ?_
      rcases eti_ H with ⟨c187, H⟩ | ⟨c187, H⟩
      · refine doF_ 6 (bF c187) ?_
        refine doF_ 7 (bF c187) ?_
        refine doF_ 8 (bF c187) ?_
        refine doF_ 9 (bF c187) ?_
        refine doF_ 10 (bF c187) ?_
        refine doF_ 11 (bF c187) ?_
        refine doF_ 12 (bF c187) ?_
        refine dp_ 13 (fun _ => Run.pickF rfl rfl (bF c187) rfl) ?_
        refine dm_ 14 ?_
        refine doF_ 15 rfl ?_
        refine doF_ 16 rfl ?_
        refine doF_ 17 rfl ?_
        refine doF_ 18 rfl ?_
        refine doF_ 19 rfl ?_
        refine doF_ 20 rfl ?_
        refine doF_ 21 rfl ?_
        refine doF_ 22 rfl ?_
        refine doF_ 23 rfl ?_
        refine doF_ 24 rfl ?_
        refine doF_ 25 rfl ?_
        refine dp_ 26 (fun _ => Run.pickF rfl rfl rfl rfl) ?_
        refine dp_ 27 (fun _ => Run.assign rfl rfl) ?_
        refine dd_ ?_
        clear HB HSW
        refine via_ hK178 ?_
        cases H
        exact rt1 Tryz.f19 rfl rfl hR_ ⟨rfl, HS.b⟩
      refine dfg_ 6 c187 Tryz.underlying47 ?_
      refine dfg_ 8 c187 Tryz.underlying47 ?_
      obtain ⟨A188, c189, hc190, le191, HS⟩ := HS.sO 4 rfl at47_8
      obtain ⟨A192, c193, hc194, le195, HS⟩ := HS.sO 5 rfl at47_9
      refine dh_ 7 c187 HB (fun w_ hw_ => Run.loadS (cs := [.int .i64 x0.f7.f0, .slice A188 x0.f7.f1.length c189, .slice A192 x0.f7.f2.length c193, .int .i64 x0.f7.f3, .int .i64 x0.f7.f4]) rfl rfl Tryz.underlying44 rfl (by kernel_rfl) (box_part ((HSW.below hw_).mu 0 rfl) (part_cons (at47_7 ((HSW.below hw_).aO 3 rfl)).int (part_cons hc190 (part_cons hc194 (part_cons (at47_10 ((HSW.below hw_).aO 3 rfl)).int (part_cons (at47_11 ((HSW.below hw_).aO 3 rfl)).int part_nil))))))) ?_
      refine blg_ 9 c187 HSW HB 0 Tryz.underlying3 (at47_0 (HSW.aO 3 rfl)).int ?_
      refine dh_ 10 c187 HB (fun w_ hw_ => Run.loadS (cs := cs0) rfl rfl Tryz.underlying47 rfl (by rw [el0]; kernel_rfl) (box_part ((HSW.below hw_).mu 0 rfl) part_all)) ?_
      obtain ⟨t196, ha197, H⟩ := bind_some H
      refine dcs_ HS HB 11 (w_on rfl rfl rfl c187) Tryz.func41 (spec_Vocab.runs k cs0 x0 t196 _ (HS.getO 6 rfl) ha197) (fun w198 HS HB => ?_)
      obtain ⟨t199, ha200, H⟩ := bind_some H
      refine dcs_ HS HB 12 (w_on rfl rfl rfl c187) Tryz.func46 (spec_l10Matrix.runs k x0.f7 A188 c189 A192 c193 x0.f0 t196 t199 _ (HS.getO 1 rfl) le191 (HS.getO 0 rfl) le195 ha200) (fun w201 HS HB => ?_)
      refine dp_ 13 (fun _ => Run.pickT rfl rfl c187 rfl) ?_
      refine dm_ 14 ?_
      rcases eti_ H with ⟨c202, H⟩ | ⟨c202, H⟩
      · refine doF_ 15 (bF c202) ?_
        refine doF_ 16 (bF c202) ?_
        refine doF_ 17 (bF c202) ?_
        refine doF_ 18 (bF c202) ?_
        refine doF_ 19 (bF c202) ?_
        refine doF_ 20 (bF c202) ?_
        refine doF_ 21 (bF c202) ?_
        refine doF_ 22 (bF c202) ?_
        refine doF_ 23 (bF c202) ?_
        refine doF_ 24 (bF c202) ?_
        refine doF_ 25 (bF c202) ?_
        refine dp_ 26 (fun _ => Run.pickF rfl rfl (bF c202) rfl) ?_
        refine dp_ 27 (fun _ => Run.assign rfl rfl) ?_
        refine dd_ ?_
        clear HB HSW
        refine via_ hK178 ?_
        cases H
        exact rt1 Tryz.f19 rfl rfl hR_ ⟨rfl, HS.b⟩
      refine dfg_ 15 c202 Tryz.underlying47 ?_
      refine dfg_ 17 c202 Tryz.underlying47 ?_
      refine dfg_ 19 c202 Tryz.underlying47 ?_
      refine dfg_ 21 c202 Tryz.underlying47 ?_
      obtain ⟨A203, c204, hc205, le206, HS⟩ := HS.sO 6 rfl at47_12
      obtain ⟨A207, c208, hc209, le210, HS⟩ := HS.sO 7 rfl at47_13
      refine dh_ 16 c202 HB (fun w_ hw_ => Run.loadS (cs := [.slice A203 x0.f8.f0.length c204, .slice A207 x0.f8.f1.length c208]) rfl rfl Tryz.underlying45 rfl (by kernel_rfl) (box_part ((HSW.below hw_).mu 0 rfl) (part_cons hc205 (part_cons hc209 part_nil)))) ?_
      refine blg_ 18 c202 HSW HB 0 Tryz.underlying3 (at47_2 (HSW.aO 3 rfl)).int ?_
      refine blg_ 20 c202 HSW HB 0 Tryz.underlying3 (at47_0 (HSW.aO 3 rfl)).int ?_
      refine blg_ 22 c202 HSW HB 0 Tryz.underlying3 (at47_1 (HSW.aO 3 rfl)).int ?_
      obtain ⟨z211, H⟩ := if_some H
      refine dg_ 23 c202 (fun _ => Run.bin rfl rfl rfl (bin_quo64 z211)) ?_
      refine dg_ 24 c202 (fun _ => Run.bin rfl rfl rfl (bin_quo64 (show (2 : Int) ≠ 0 by decide))) ?_
      obtain ⟨t212, ha213, H⟩ := bind_some H
      refine dcs_ HS HB 25 (w_on rfl rfl rfl c202) Tryz.func47 (spec_TurnsOk.calls k A203 c204 x0.f8.f0 A207 c208 x0.f8.f1 x0.f2 (wrap64 (Int.tdiv (wrap64 (Int.tdiv x0.f0 x0.f1)) 2)) t212 _ (HS.getO 1 rfl) le206 (HS.getO 0 rfl) le210 ha213) (fun w214 HS HB => ?_)
      refine dp_ 26 (fun _ => Run.pickT rfl rfl c202 rfl) ?_
      refine dp_ 27 (fun _ => Run.assign rfl rfl) ?_
      refine dd_ ?_
      clear HB HSW
      refine via_ hK178 ?_
      cases H
      exact rt1 Tryz.f19 rfl rfl hR_ ⟨rfl, HS.b⟩
    refine WC.loop (fun k_ E_ W_ => ∃ (i175 : Int), E_ = [(1, .pointer (some ⟨b2, 0, none⟩)), (4, .int .i64 i175)] ∧ (∃ o_, spec_ModelOk.l2 x0 k_ i175 = some o_ ∧ G171 o_ = some r) ∧ St (fun _ => True) w W_ [boxM b2 cs0.toArray 47] [(fun W => k86.C W A152 x0.f5.length x0.f5), (fun W => (Kd.slice 3 (Kd.int .i64)).C W A144 x0.f4.length x0.f4), (fun W => k94.C W A136 x0.f3.length x0.f3), (fun W => k47.K W x0 cs0)] []) k ⟨0, rfl, ⟨_, H, Ho174⟩, (St.pick HS (fun W_ h_ => ⟨AllF.get 0 rfl h_, AllF.get 1 rfl h_, AllF.get 2 rfl h_, AllF.get 3 rfl h_, trivial⟩) (fun W_ h_ => trivial))⟩ ⟨rfl, rfl, trivial⟩ ?_
    rintro k_ E_ w216 ⟨i175, rfl, ⟨o173, H, Ho174⟩, HS⟩
    rcases k_ with _ | k217
    · exact no_ H
    replace H : spec_ModelOk.b2 x0 (spec_ModelOk.l2 x0 k217) k217 i175 = some o173 := H
    unfold spec_ModelOk.b2 at H
    refine WC.seq fun _ hK218 => ?_
    refine sr_ fun _ hK219 => ?_
    refine mv_ ?_
    refine v_ (fa_ Tryz.underlying47) ?_
    refine v_ (lb_ (HS.mu 0 rfl) Tryz.underlying43 hc154) ?_
    refine ln_ Tryz.underlying43 ?_
    refine b_ bin_lss ?_
    refine dn_ hK219 ?_
    rcases eti_ H with ⟨c220, H⟩ | ⟨c220, H⟩
    · refine wn_ (dF c220) ?_
      refine WC.exit ?_
      cases H
      exact WQ.via2 (fun _ _ h_ => h_) X176 ⟨i175, rfl, Ho174, (St.pick HS (fun W_ h_ => ⟨AllF.get 0 rfl h_, AllF.get 1 rfl h_, AllF.get 2 rfl h_, AllF.get 3 rfl h_, trivial⟩) (fun W_ h_ => trivial))⟩ ⟨rfl, rfl, trivial⟩
    refine wy_ (dT c220) ?_
    refine WC.skip ?_
    refine via_ hK218 ?_
    refine WC.seq fun _ hK221 => ?_
    refine WC.block ?_
    refine WC.seq fun _ hK222 => ?_
    refine WC.drawS HS [] rfl rfl (fun w223 HS => ?_)
    have HB := Below.refl w223.heap.size w223
    have HSW := HS
    refine df_ 0 Tryz.underlying47 ?_
    refine dm_ 2 ?_
    refine df_ 5 Tryz.underlying47 ?_
    refine bl_ 1 HS (Below.refl _ _) 0 Tryz.underlying43 hc154 ?_
    obtain ⟨⟨q224, q225⟩, H⟩ := if_some H
    obtain ⟨ad226, rfl⟩ := C_open (HS.getO 0 rfl) (by omega)
    refine di_ 3 Tryz.underlying43 32 q224 q225 ?_
    obtain ⟨e227, el228, HS⟩ := HS.elO 0 rfl (by decide) o86 i175 q224 q225
    replace HS := HS.deriveO (p := (fun W => k86.K W (x0.f5.getD i175.toNat o86) e227)) (fun W_ hO_ hN_ => (AllF.get 0 rfl hO_).1)
    refine dt_ 4 (Below.refl _ _) (fun w_ hw_ => Run.loadS (cs := e227) rfl rfl Tryz.underlying86 rfl (by rw [el228]; kernel_rfl) ((HS.below hw_).getO 1 rfl).2) ?_
    refine bl_ 6 HS (Below.refl _ _) 0 Tryz.underlying3 (at47_0 (HS.aO 5 rfl)).int ?_
    obtain ⟨t229, ha230, H⟩ := bind_some H
    refine dcs_ HS HB 7 (w_none rfl) Tryz.func44 (spec_LayerOk.runs k217 e227 (x0.f5.getD i175.toNat o86) x0.f0 t229 _ (HS.getO 0 rfl) ha230) (fun w231 HS HB => ?_)
    refine dp_ 8 (fun _ => Run.not rfl rfl) ?_
    refine dd_ ?_
    clear HB HSW
    refine via_ hK222 ?_
    rcases eti_ H with ⟨c232, H⟩ | ⟨c232, H⟩
    · refine wy_ (nB (bF c232)) ?_
      refine sr_ fun _ hK233 => ?_
      refine as_ ?_
      refine dn_ hK233 ?_
      refine WC.ret ?_
      cases H
      rw [hG172] at Ho174
      replace H : some _ = some _ := Ho174
      cases H
      exact fin1 Tryz.f19 rfl rfl hR_ ⟨rfl, HS.b⟩
    refine wn_ (nB c232) ?_
    refine WC.skip ?_
    refine via_ hK221 ?_
    refine rg_ ?_
    refine mv_ ?_
    refine b_ bin_add64 ?_
    refine as_ ?_
    refine WL.done ?_
    exact WQ.round k217 (fun _ _ h_ => h_) (Nat.lt_succ_self _) ⟨(wrap64 (i175 + 1)), rfl, ⟨_, H, Ho174⟩, (St.pick HS (fun W_ h_ => ⟨AllF.get 2 rfl h_, AllF.get 3 rfl h_, AllF.get 4 rfl h_, AllF.get 5 rfl h_, trivial⟩) (fun W_ h_ => trivial))⟩ ⟨rfl, rfl, trivial⟩
  refine WC.loop (fun k_ E_ W_ => ∃ (i166 : Int), E_ = [(1, .pointer (some ⟨b2, 0, none⟩)), (3, .int .i64 i166)] ∧ (∃ o_, spec_ModelOk.l3 x0 k_ i166 = some o_ ∧ G162 o_ = some r) ∧ St (fun _ => True) w W_ [boxM b2 cs0.toArray 47] [(fun W => k86.C W A152 x0.f5.length x0.f5), (fun W => (Kd.slice 3 (Kd.int .i64)).C W A144 x0.f4.length x0.f4), (fun W => k94.C W A136 x0.f3.length x0.f3), (fun W => k47.K W x0 cs0)] []) k ⟨0, rfl, ⟨_, H, Ho165⟩, (St.pick HS (fun W_ h_ => ⟨AllF.get 0 rfl h_, AllF.get 1 rfl h_, AllF.get 2 rfl h_, AllF.get 3 rfl h_, trivial⟩) (fun W_ h_ => trivial))⟩ ⟨rfl, rfl, trivial⟩ ?_
  rintro k_ E_ w235 ⟨i166, rfl, ⟨o164, H, Ho165⟩, HS⟩
  rcases k_ with _ | k236
  · exact no_ H
  replace H : spec_ModelOk.b3 x0 (spec_ModelOk.l3 x0 k236) k236 i166 = some o164 := H
  unfold spec_ModelOk.b3 at H
  refine WC.seq fun _ hK237 => ?_
  refine sr_ fun _ hK238 => ?_
  refine mv_ ?_
  refine v_ (fa_ Tryz.underlying47) ?_
  refine v_ (lb_ (HS.mu 0 rfl) Tryz.underlying26 hc146) ?_
  refine ln_ Tryz.underlying26 ?_
  refine b_ bin_lss ?_
  refine dn_ hK238 ?_
  rcases eti_ H with ⟨c239, H⟩ | ⟨c239, H⟩
  · refine wn_ (dF c239) ?_
    refine WC.exit ?_
    cases H
    exact WQ.via2 (fun _ _ h_ => h_) X167 ⟨i166, rfl, Ho165, (St.pick HS (fun W_ h_ => ⟨AllF.get 0 rfl h_, AllF.get 1 rfl h_, AllF.get 2 rfl h_, AllF.get 3 rfl h_, trivial⟩) (fun W_ h_ => trivial))⟩ ⟨rfl, rfl, trivial⟩
  refine wy_ (dT c239) ?_
  refine WC.skip ?_
  refine via_ hK237 ?_
  refine WC.seq fun _ hK240 => ?_
  refine WC.block ?_
  refine WC.seq fun _ hK241 => ?_
  refine WC.drawS HS [] rfl rfl (fun w242 HS => ?_)
  have HB := Below.refl w242.heap.size w242
  have HSW := HS
  refine df_ 0 Tryz.underlying47 ?_
  refine dm_ 2 ?_
  refine df_ 6 Tryz.underlying47 ?_
  refine bl_ 1 HS (Below.refl _ _) 0 Tryz.underlying26 hc146 ?_
  obtain ⟨⟨q243, q244⟩, H⟩ := if_some H
  obtain ⟨ad245, rfl⟩ := C_open (HS.getO 1 rfl) (by omega)
  refine di_ 3 Tryz.underlying26 1 q243 q244 ?_
  obtain ⟨A246, c247, le248, HS⟩ := HS.slO 1 rfl i166 q243 q244
  refine dt_ 4 (Below.refl _ _) (fun w_ hw_ => Run.load rfl rfl Tryz.underlying28 rfl ((HS.below hw_).getO 1 rfl)) ?_
  refine dp_ 5 (fun _ => Run.len (ts := #[]) rfl Tryz.underlying28 rfl) ?_
  refine bl_ 7 HS (Below.refl _ _) 0 Tryz.underlying3 (at47_0 (HS.aO 5 rfl)).int ?_
  refine dp_ 8 (fun _ => Run.bin rfl rfl rfl bin_neq) ?_
  refine dm_ 9 ?_
  rcases eti_ H with ⟨c249, H⟩ | ⟨c249, H⟩
  · refine doT_ 10 (qT c249) ?_
    refine doT_ 11 (qT c249) ?_
    refine doT_ 12 (qT c249) ?_
    refine doT_ 13 (qT c249) ?_
    refine doT_ 14 (qT c249) ?_
    refine doT_ 15 (qT c249) ?_
    refine doT_ 16 (qT c249) ?_
    refine dp_ 17 (fun _ => Run.pickT rfl rfl (qT c249) rfl) ?_
    refine dd_ ?_
    clear HB HSW
    refine via_ hK241 ?_
    refine wy_ rfl ?_
    refine sr_ fun _ hK255 => ?_
    refine as_ ?_
    refine dn_ hK255 ?_
    refine WC.ret ?_
    cases H
    rw [hG163] at Ho165
    replace H : some _ = some _ := Ho165
    cases H
    exact fin1 Tryz.f19 rfl rfl hR_ ⟨rfl, HS.b⟩
  refine dfg_ 10 (qF c249) Tryz.underlying47 ?_
  refine dg_ 12 (qF c249) (fun _ => Run.move rfl rfl) ?_
  refine blg_ 11 (qF c249) HS (Below.refl _ _) 0 Tryz.underlying26 hc146 ?_
  refine dg_ 13 (qF c249) (fun _ => Run.indexAddr rfl rfl rfl Tryz.underlying26 (sz := 1) (by kernel_rfl) q243 q244) ?_
  refine dh_ 14 (qF c249) (Below.refl _ _) (fun w_ hw_ => Run.load rfl rfl Tryz.underlying28 rfl ((HS.below hw_).getO 1 rfl)) ?_
  obtain ⟨t250, ha251, H⟩ := bind_some H
  refine dcs0_ HS HB 15 (w_on rfl rfl rfl (qF c249)) Tryz.func43 (spec_l05All.calls k236 A246 c247 (x0.f4.getD i166.toNat []) (-127) 127 t250 _ (HS.getO 0 rfl) le248 ha251) (fun w252 HS HB => ?_)
  refine dg_ 16 (qF c249) (fun _ => Run.not rfl rfl) ?_
  refine dp_ 17 (fun _ => Run.pickF rfl rfl (qF c249) rfl) ?_
  refine dd_ ?_
  clear HB HSW
  refine via_ hK241 ?_
  rcases eti_ H with ⟨c253, H⟩ | ⟨c253, H⟩
  · refine wy_ (nB (bF c253)) ?_
    refine sr_ fun _ hK254 => ?_
    refine as_ ?_
    refine dn_ hK254 ?_
    refine WC.ret ?_
    cases H
    rw [hG163] at Ho165
    replace H : some _ = some _ := Ho165
    cases H
    exact fin1 Tryz.f19 rfl rfl hR_ ⟨rfl, HS.b⟩
  refine wn_ (nB c253) ?_
  refine WC.skip ?_
  refine via_ hK240 ?_
  refine rg_ ?_
  refine mv_ ?_
  refine b_ bin_add64 ?_
  refine as_ ?_
  refine WL.done ?_
  exact WQ.round k236 (fun _ _ h_ => h_) (Nat.lt_succ_self _) ⟨(wrap64 (i166 + 1)), rfl, ⟨_, H, Ho165⟩, (St.pick HS (fun W_ h_ => ⟨AllF.get 2 rfl h_, AllF.get 3 rfl h_, AllF.get 4 rfl h_, AllF.get 5 rfl h_, trivial⟩) (fun W_ h_ => trivial))⟩ ⟨rfl, rfl, trivial⟩
def impl_LayerOk.b0 (x0 : S86) (a1 : Int) (rec_ : Int → Option (Bool ⊕ Int)) (k99 : Nat) (i74 : Int) : Option (Bool ⊕ Int) := (if i74 < (4 : Int) then (if 0 ≤ i74 ∧ i74 < (4 : Int) then ((impl_withinBudget.f k99 ((([x0.f1, x0.f2, x0.f3, x0.f4]).getD i74.toNat o44).f0) ((([x0.f1, x0.f2, x0.f3, x0.f4]).getD i74.toNat o44).f1) ((([x0.f1, x0.f2, x0.f3, x0.f4]).getD i74.toNat o44).f2) ((([x0.f1, x0.f2, x0.f3, x0.f4]).getD i74.toNat o44).f3) ((([x0.f1, x0.f2, x0.f3, x0.f4]).getD i74.toNat o44).f4) a1 a1).bind fun t122 => (if t122 = true then (rec_ (wrap64 (i74 + 1))) else (some (Sum.inl false)))) else none) else (some (Sum.inr i74)))
def impl_LayerOk.l0 (x0 : S86) (a1 : Int) : Nat → Int → Option (Bool ⊕ Int)
  | 0, _ => none
  | k + 1, i74 => impl_LayerOk.b0 x0 a1 (impl_LayerOk.l0 x0 a1 k) k i74
def impl_LayerOk.g (k : Nat) (x0 : S86) (a1 : Int) : Option Bool := ((impl_GainOk.f x0.f0 a1).bind fun t15 => (if t15 = true then ((impl_GainOk.f x0.f5 a1).bind fun t23 => (if t23 = true then ((impl_isWidth.f (x0.f6.f1.length : Int)).bind fun t27 => (if t27 = true then ((impl_LayerOk.l0 x0 a1 k 0).bind (fun o97 => match o97 with | .inl r_ => some r_ | .inr i74 => ((impl_withinBudget.f k x0.f6.f0 x0.f6.f1 x0.f6.f2 x0.f6.f3 x0.f6.f4 a1 (x0.f6.f1.length : Int)).bind fun t82 => (if t82 = true then ((impl_withinBudget.f k x0.f7.f0 x0.f7.f1 x0.f7.f2 x0.f7.f3 x0.f7.f4 (x0.f6.f1.length : Int) a1).bind fun t94 => (some t94)) else (some false))))) else (some false))) else (some false))) else (some false)))
theorem impl_LayerOk.runs (k : Nat) (cs0 : List Value) (x0 : S86) (a1 : Int) (r : Bool) (w : World) (hk0 : k86.K w x0 cs0) (H : impl_LayerOk.g k x0 a1 = some r) :
    Calls Tryz.prog 61 #[.agg cs0.toArray, .int .i64 a1] w fun e w' => e = .returned (.bool r) ∧ Below w.heap.size w w' := by
  have el0 : cs0.length = 32 := k86.K_len hk0
  unfold impl_LayerOk.g at H
  have HS : St (fun _ => True) w w [] [(fun W => k86.K W x0 cs0)] [] := St.start (foot_cons (foot_K h86 hk0) foot_nil)
  refine cw_ Tryz.func61 fun R_ hR_ => ?_
  refine sr_ fun _ hK1 => ?_
  refine bo_ HS (fun b2 w3 hb2 HS => ?_)
  refine as_ ?_
  refine dn_ hK1 ?_
  refine sr_ fun _ hK4 => ?_
  refine v_ (fa_ Tryz.underlying86) ?_
  refine v_ (fa_ Tryz.underlying44) ?_
  obtain ⟨A5, c6, hc7, le8, HS⟩ := HS.sO 0 rfl at86_23
  refine v_ (lb_ (HS.mu 0 rfl) Tryz.underlying26 hc7) ?_
  refine ln_ Tryz.underlying26 ?_
  refine as_ ?_
  refine dn_ hK4 ?_
  refine WC.seq fun _ hK9 => ?_
  refine sr_ fun _ hK10 => ?_
  refine v_ (fa_ Tryz.underlying86) ?_
  obtain ⟨A11, c12, hc13, le14, HS⟩ := HS.sO 1 rfl at86_0
  refine v_ (lb_ (HS.mu 0 rfl) Tryz.underlying28 hc13) ?_
  refine mv_ ?_
  obtain ⟨t15, ha16, H⟩ := bind_some H
  refine cs_ HS Tryz.func62 (impl_GainOk.calls A11 c12 x0.f0 a1 t15 _ (HS.getO 0 rfl) le14 ha16) (fun w17 HS => ?_)
  refine nt_ ?_
  refine mv_ ?_
  rcases eti_ H with ⟨c18, H⟩ | ⟨c18, H⟩
  · refine off_ (c' := true) (nB (bF c18)) ?_
    refine WL.know 17 (nB (bF c18)) ?_
    refine fast_ ?_
    refine via_ hK10 ?_
    refine wy_ rfl ?_
    refine sr_ fun _ hK129 => ?_
    refine as_ ?_
    refine dn_ hK129 ?_
    cases H
    exact rt1 Tryz.f61 rfl rfl hR_ ⟨rfl, HS.b⟩
  refine on_ (nB c18) ?_
  refine v_ (fa_ Tryz.underlying86) ?_
  refine on_ (nB c18) ?_
  obtain ⟨A19, c20, hc21, le22, HS⟩ := HS.sO 2 rfl at86_21
  refine v_ (lb_ (HS.mu 0 rfl) Tryz.underlying28 hc21) ?_
  refine on_ (nB c18) ?_
  refine mv_ ?_
  refine on_ (nB c18) ?_
  obtain ⟨t23, ha24, H⟩ := bind_some H
  refine cs_ HS Tryz.func62 (impl_GainOk.calls A19 c20 x0.f5 a1 t23 _ (HS.getO 0 rfl) le22 ha24) (fun w25 HS => ?_)
  refine on_ (nB c18) ?_
  refine nt_ ?_
  refine v_ (Run.pickF rfl rfl (nB c18) rfl) ?_
  refine mv_ ?_
  rcases eti_ H with ⟨c26, H⟩ | ⟨c26, H⟩
  · refine off_ (c' := true) (nB (bF c26)) ?_
    refine WL.know 24 (nB (bF c26)) ?_
    refine fast_ ?_
    refine via_ hK10 ?_
    refine wy_ rfl ?_
    refine sr_ fun _ hK128 => ?_
    refine as_ ?_
    refine dn_ hK128 ?_
    cases H
    exact rt1 Tryz.f61 rfl rfl hR_ ⟨rfl, HS.b⟩
  refine on_ (nB c26) ?_
  refine mv_ ?_
  refine on_ (nB c26) ?_
  obtain ⟨t27, ha28, H⟩ := bind_some H
  refine cs0_ HS Tryz.func52 (impl_isWidth.calls (x0.f6.f1.length : Int) t27 _ ha28) (fun w29 HS => ?_)
  refine on_ (nB c26) ?_
  refine nt_ ?_
  refine v_ (Run.pickF rfl rfl (nB c26) rfl) ?_
  refine dn_ hK10 ?_
  rcases eti_ H with ⟨c30, H⟩ | ⟨c30, H⟩
  · refine wy_ (nB (bF c30)) ?_
    refine sr_ fun _ hK127 => ?_
    refine as_ ?_
    refine dn_ hK127 ?_
    cases H
    exact rt1 Tryz.f61 rfl rfl hR_ ⟨rfl, HS.b⟩
  refine wn_ (nB c30) ?_
  refine WC.skip ?_
  refine via_ hK9 ?_
  refine WC.seq fun K31 hK31 => ?_
  refine sr_ fun _ hK32 => ?_
  refine v_ (fa_ Tryz.underlying86) ?_
  obtain ⟨A33, c34, hc35, le36, HS⟩ := HS.sO 3 rfl at86_2
  obtain ⟨A37, c38, hc39, le40, HS⟩ := HS.sO 4 rfl at86_3
  refine v_ (ls_ (HS.mu 0 rfl) Tryz.underlying44 (part_cons (at86_1 (HS.aO 5 rfl)).int (part_cons hc35 (part_cons hc39 (part_cons (at86_4 (HS.aO 5 rfl)).int (part_cons (at86_5 (HS.aO 5 rfl)).int part_nil)))))) ?_
  refine v_ (fa_ Tryz.underlying86) ?_
  obtain ⟨A41, c42, hc43, le44, HS⟩ := HS.sO 5 rfl at86_7
  obtain ⟨A45, c46, hc47, le48, HS⟩ := HS.sO 6 rfl at86_8
  refine v_ (ls_ (HS.mu 0 rfl) Tryz.underlying44 (part_cons (at86_6 (HS.aO 7 rfl)).int (part_cons hc43 (part_cons hc47 (part_cons (at86_9 (HS.aO 7 rfl)).int (part_cons (at86_10 (HS.aO 7 rfl)).int part_nil)))))) ?_
  refine v_ (fa_ Tryz.underlying86) ?_
  obtain ⟨A49, c50, hc51, le52, HS⟩ := HS.sO 7 rfl at86_12
  obtain ⟨A53, c54, hc55, le56, HS⟩ := HS.sO 8 rfl at86_13
  refine v_ (ls_ (HS.mu 0 rfl) Tryz.underlying44 (part_cons (at86_11 (HS.aO 9 rfl)).int (part_cons hc51 (part_cons hc55 (part_cons (at86_14 (HS.aO 9 rfl)).int (part_cons (at86_15 (HS.aO 9 rfl)).int part_nil)))))) ?_
  refine v_ (fa_ Tryz.underlying86) ?_
  obtain ⟨A57, c58, hc59, le60, HS⟩ := HS.sO 9 rfl at86_17
  obtain ⟨A61, c62, hc63, le64, HS⟩ := HS.sO 10 rfl at86_18
  refine v_ (ls_ (HS.mu 0 rfl) Tryz.underlying44 (part_cons (at86_16 (HS.aO 11 rfl)).int (part_cons hc59 (part_cons hc63 (part_cons (at86_19 (HS.aO 11 rfl)).int (part_cons (at86_20 (HS.aO 11 rfl)).int part_nil)))))) ?_
  refine WL.litN HS (sz := 5) (z := (.agg #[.int .i64 0, .slice none 0 0, .slice none 0 0, .int .i64 0, .int .i64 0])) rfl rfl (by decide) rfl [[.int .i64 x0.f1.f0, .slice A33 x0.f1.f1.length c34, .slice A37 x0.f1.f2.length c38, .int .i64 x0.f1.f3, .int .i64 x0.f1.f4], [.int .i64 x0.f2.f0, .slice A41 x0.f2.f1.length c42, .slice A45 x0.f2.f2.length c46, .int .i64 x0.f2.f3, .int .i64 x0.f2.f4], [.int .i64 x0.f3.f0, .slice A49 x0.f3.f1.length c50, .slice A53 x0.f3.f2.length c54, .int .i64 x0.f3.f3, .int .i64 x0.f3.f4], [.int .i64 x0.f4.f0, .slice A57 x0.f4.f1.length c58, .slice A61 x0.f4.f2.length c62, .int .i64 x0.f4.f3, .int .i64 x0.f4.f4]] ⟨⟨rfl, _, rfl, rfl, rfl⟩, ⟨⟨rfl, _, rfl, rfl, rfl⟩, ⟨⟨rfl, _, rfl, rfl, rfl⟩, ⟨⟨rfl, _, rfl, rfl, rfl⟩, trivial⟩⟩⟩⟩ rfl Tryz.underlying119 (by kernel_rfl) (by decide) (by decide) (fun v65 w66 HS => ?_)
  replace HS := HS.deriveO (p := (fun W => Reps (k44.K W) k44.sz [x0.f1, x0.f2, x0.f3, x0.f4] (List.flatten [[.int .i64 x0.f1.f0, .slice A33 x0.f1.f1.length c34, .slice A37 x0.f1.f2.length c38, .int .i64 x0.f1.f3, .int .i64 x0.f1.f4], [.int .i64 x0.f2.f0, .slice A41 x0.f2.f1.length c42, .slice A45 x0.f2.f2.length c46, .int .i64 x0.f2.f3, .int .i64 x0.f2.f4], [.int .i64 x0.f3.f0, .slice A49 x0.f3.f1.length c50, .slice A53 x0.f3.f2.length c54, .int .i64 x0.f3.f3, .int .i64 x0.f3.f4], [.int .i64 x0.f4.f0, .slice A57 x0.f4.f1.length c58, .slice A61 x0.f4.f2.length c62, .int .i64 x0.f4.f3, .int .i64 x0.f4.f4]]))) (fun W_ hO_ hN_ => reps_lit ⟨(k44_mk _ x0.f1 (le36) (AllF.get 7 rfl hO_) (le40) (AllF.get 6 rfl hO_)), ⟨(k44_mk _ x0.f2 (le44) (AllF.get 5 rfl hO_) (le48) (AllF.get 4 rfl hO_)), ⟨(k44_mk _ x0.f3 (le52) (AllF.get 3 rfl hO_) (le56) (AllF.get 2 rfl hO_)), ⟨(k44_mk _ x0.f4 (le60) (AllF.get 1 rfl hO_) (le64) (AllF.get 0 rfl hO_)), trivial⟩⟩⟩⟩)
  obtain ⟨A67, c68, rfl⟩ := row_slice (HS.mu 0 rfl)
  refine ln_ Tryz.underlying119 ?_
  refine mv_ ?_
  refine dn_ hK32 ?_
  refine WC.block ?_
  have le69 := row_le (HS.mu 0 rfl)
  replace HS := HS.freezeO 0 (p := (fun W => k44.C W A67 4 ([x0.f1, x0.f2, x0.f3, x0.f4]))) rfl (fun W_ hm_ h_ => row_C (by simp) hm_ (AllF.get 0 rfl h_))
  obtain ⟨G70, hG71, o72, H, Ho73⟩ := open_G H
  have X75 : ∀ E_ W_, (∃ (i74 : Int), E_ = [(1, .int .i64 a1), (2, .pointer (some ⟨b2, 0, none⟩)), (5, .int .i64 (x0.f6.f1.length : Int)), (37, .slice A67 4 c68), (38, .int .i64 (4 : Int)), (39, .int .i64 i74)] ∧ G70 (Sum.inr i74) = some r ∧ St (fun _ => True) w W_ [boxM b2 cs0.toArray 86] [(fun W => k44.C W A67 4 ([x0.f1, x0.f2, x0.f3, x0.f4])), (fun W => (Kd.slice 3 (Kd.int .i64)).C W A61 x0.f4.f2.length x0.f4.f2), (fun W => (Kd.slice 3 (Kd.int .i64)).C W A57 x0.f4.f1.length x0.f4.f1), (fun W => (Kd.slice 3 (Kd.int .i64)).C W A53 x0.f3.f2.length x0.f3.f2), (fun W => (Kd.slice 3 (Kd.int .i64)).C W A49 x0.f3.f1.length x0.f3.f1), (fun W => (Kd.slice 3 (Kd.int .i64)).C W A45 x0.f2.f2.length x0.f2.f2), (fun W => (Kd.slice 3 (Kd.int .i64)).C W A41 x0.f2.f1.length x0.f2.f1), (fun W => (Kd.slice 3 (Kd.int .i64)).C W A37 x0.f1.f2.length x0.f1.f2), (fun W => (Kd.slice 3 (Kd.int .i64)).C W A33 x0.f1.f1.length x0.f1.f1), (fun W => (Kd.int .i64).C W A19 x0.f5.length x0.f5), (fun W => (Kd.int .i64).C W A11 x0.f0.length x0.f0), (fun W => (Kd.slice 3 (Kd.int .i64)).C W A5 x0.f6.f1.length x0.f6.f1), (fun W => k86.K W x0 cs0)] []) → ∀ a, Fits a 61 E_ → K31 a W_ := by
    rintro E_ w76 ⟨i74, rfl, H, HS⟩
    rw [hG71] at H
    (try dsimp only at H)
    refine hK31 _ _ ?_
    refine sr_ fun _ hK77 => ?_
    refine v_ (fa_ Tryz.underlying86) ?_
    obtain ⟨A78, c79, hc80, le81, HS⟩ := HS.sO 12 rfl at86_24
    refine v_ (ls_ (HS.mu 0 rfl) Tryz.underlying44 (part_cons (at86_22 (HS.aO 13 rfl)).int (part_cons hc7 (part_cons hc80 (part_cons (at86_25 (HS.aO 13 rfl)).int (part_cons (at86_26 (HS.aO 13 rfl)).int part_nil)))))) ?_
    refine mv_ ?_
    refine mv_ ?_
    obtain ⟨t82, ha83, H⟩ := bind_some H
    refine cs_ HS Tryz.func63 (impl_withinBudget.calls k x0.f6.f0 A5 c6 x0.f6.f1 A78 c79 x0.f6.f2 x0.f6.f3 x0.f6.f4 a1 (x0.f6.f1.length : Int) t82 _ (HS.getO 12 rfl) le8 (HS.getO 0 rfl) le81 ha83) (fun w84 HS => ?_)
    refine mv_ ?_
    rcases eti_ H with ⟨c85, H⟩ | ⟨c85, H⟩
    · refine off_ (c' := false) (bF c85) ?_
      refine WL.know 54 (bF c85) ?_
      refine fast_ ?_
      refine via_ hK77 ?_
      cases H
      exact rt1 Tryz.f61 rfl rfl hR_ ⟨rfl, HS.b⟩
    refine on_ c85 ?_
    refine v_ (fa_ Tryz.underlying86) ?_
    refine on_ c85 ?_
    obtain ⟨A86, c87, hc88, le89, HS⟩ := HS.sO 13 rfl at86_28
    obtain ⟨A90, c91, hc92, le93, HS⟩ := HS.sO 14 rfl at86_29
    refine v_ (ls_ (HS.mu 0 rfl) Tryz.underlying44 (part_cons (at86_27 (HS.aO 15 rfl)).int (part_cons hc88 (part_cons hc92 (part_cons (at86_30 (HS.aO 15 rfl)).int (part_cons (at86_31 (HS.aO 15 rfl)).int part_nil)))))) ?_
    refine on_ c85 ?_
    refine mv_ ?_
    refine on_ c85 ?_
    refine mv_ ?_
    refine on_ c85 ?_
    obtain ⟨t94, ha95, H⟩ := bind_some H
    refine cs_ HS Tryz.func63 (impl_withinBudget.calls k x0.f7.f0 A86 c87 x0.f7.f1 A90 c91 x0.f7.f2 x0.f7.f3 x0.f7.f4 (x0.f6.f1.length : Int) a1 t94 _ (HS.getO 1 rfl) le89 (HS.getO 0 rfl) le93 ha95) (fun w96 HS => ?_)
    refine v_ (Run.pickT rfl rfl c85 rfl) ?_
    refine as_ ?_
    refine dn_ hK77 ?_
    cases H
    exact rt1 Tryz.f61 rfl rfl hR_ ⟨rfl, HS.b⟩
  refine WC.loop (fun k_ E_ W_ => ∃ (i74 : Int), E_ = [(1, .int .i64 a1), (2, .pointer (some ⟨b2, 0, none⟩)), (5, .int .i64 (x0.f6.f1.length : Int)), (37, .slice A67 4 c68), (38, .int .i64 (4 : Int)), (39, .int .i64 i74)] ∧ (∃ o_, impl_LayerOk.l0 x0 a1 k_ i74 = some o_ ∧ G70 o_ = some r) ∧ St (fun _ => True) w W_ [boxM b2 cs0.toArray 86] [(fun W => k44.C W A67 4 ([x0.f1, x0.f2, x0.f3, x0.f4])), (fun W => (Kd.slice 3 (Kd.int .i64)).C W A61 x0.f4.f2.length x0.f4.f2), (fun W => (Kd.slice 3 (Kd.int .i64)).C W A57 x0.f4.f1.length x0.f4.f1), (fun W => (Kd.slice 3 (Kd.int .i64)).C W A53 x0.f3.f2.length x0.f3.f2), (fun W => (Kd.slice 3 (Kd.int .i64)).C W A49 x0.f3.f1.length x0.f3.f1), (fun W => (Kd.slice 3 (Kd.int .i64)).C W A45 x0.f2.f2.length x0.f2.f2), (fun W => (Kd.slice 3 (Kd.int .i64)).C W A41 x0.f2.f1.length x0.f2.f1), (fun W => (Kd.slice 3 (Kd.int .i64)).C W A37 x0.f1.f2.length x0.f1.f2), (fun W => (Kd.slice 3 (Kd.int .i64)).C W A33 x0.f1.f1.length x0.f1.f1), (fun W => (Kd.int .i64).C W A19 x0.f5.length x0.f5), (fun W => (Kd.int .i64).C W A11 x0.f0.length x0.f0), (fun W => (Kd.slice 3 (Kd.int .i64)).C W A5 x0.f6.f1.length x0.f6.f1), (fun W => k86.K W x0 cs0)] []) k ⟨0, rfl, ⟨_, H, Ho73⟩, (St.pick HS (fun W_ h_ => ⟨AllF.get 0 rfl h_, AllF.get 2 rfl h_, AllF.get 3 rfl h_, AllF.get 4 rfl h_, AllF.get 5 rfl h_, AllF.get 6 rfl h_, AllF.get 7 rfl h_, AllF.get 8 rfl h_, AllF.get 9 rfl h_, AllF.get 10 rfl h_, AllF.get 11 rfl h_, AllF.get 12 rfl h_, AllF.get 13 rfl h_, trivial⟩) (fun W_ h_ => trivial))⟩ ⟨rfl, rfl, rfl, rfl, rfl, rfl, trivial⟩ ?_
  rintro k_ E_ w98 ⟨i74, rfl, ⟨o72, H, Ho73⟩, HS⟩
  rcases k_ with _ | k99
  · exact no_ H
  replace H : impl_LayerOk.b0 x0 a1 (impl_LayerOk.l0 x0 a1 k99) k99 i74 = some o72 := H
  unfold impl_LayerOk.b0 at H
  refine sr_ fun _ hK100 => ?_
  refine b_ bin_lss ?_
  refine dn_ hK100 ?_
  refine WC.seq fun _ hK101 => ?_
  rcases eti_ H with ⟨c102, H⟩ | ⟨c102, H⟩
  · refine wn_ (dF c102) ?_
    refine WC.exit ?_
    cases H
    exact WQ.via2 (fun _ _ h_ => h_) X75 ⟨i74, rfl, Ho73, (St.pick HS (fun W_ h_ => ⟨AllF.get 0 rfl h_, AllF.get 1 rfl h_, AllF.get 2 rfl h_, AllF.get 3 rfl h_, AllF.get 4 rfl h_, AllF.get 5 rfl h_, AllF.get 6 rfl h_, AllF.get 7 rfl h_, AllF.get 8 rfl h_, AllF.get 9 rfl h_, AllF.get 10 rfl h_, AllF.get 11 rfl h_, AllF.get 12 rfl h_, trivial⟩) (fun W_ h_ => trivial))⟩ ⟨rfl, rfl, rfl, rfl, rfl, rfl, trivial⟩
  refine wy_ (dT c102) ?_
  refine WC.skip ?_
  refine via_ hK101 ?_
  refine WC.seq fun _ hK103 => ?_
  refine WC.block ?_
  refine sr_ fun _ hK104 => ?_
  obtain ⟨⟨q105, q106⟩, H⟩ := if_some H
  obtain ⟨ad107, rfl⟩ := C_open (HS.getO 0 rfl) (by omega)
  refine v_ (ia_ Tryz.underlying119 5 q105 q106) ?_
  obtain ⟨e108, el109, HS⟩ := HS.elO 0 rfl (by decide) o44 i74 q105 q106
  obtain ⟨A110, c111, hc112, le113, HS⟩ := HS.eO 0 rfl at44_1
  obtain ⟨A114, c115, hc116, le117, HS⟩ := HS.eO 1 rfl at44_2
  refine v_ (Run.loadS (cs := [.int .i64 ((([x0.f1, x0.f2, x0.f3, x0.f4]).getD i74.toNat o44).f0), .slice A110 ((([x0.f1, x0.f2, x0.f3, x0.f4]).getD i74.toNat o44).f1.length) c111, .slice A114 ((([x0.f1, x0.f2, x0.f3, x0.f4]).getD i74.toNat o44).f2.length) c115, .int .i64 ((([x0.f1, x0.f2, x0.f3, x0.f4]).getD i74.toNat o44).f3), .int .i64 ((([x0.f1, x0.f2, x0.f3, x0.f4]).getD i74.toNat o44).f4)]) rfl rfl Tryz.underlying44 rfl (by kernel_rfl) (cells_part (HS.getO 2 rfl).2 (part_cons (at44_0 (AtK.whole (HS.getO 2 rfl).1)).int (part_cons hc112 (part_cons hc116 (part_cons (at44_3 (AtK.whole (HS.getO 2 rfl).1)).int (part_cons (at44_4 (AtK.whole (HS.getO 2 rfl).1)).int part_nil))))))) ?_
  refine WL.alloc HS (v := .agg #[.int .i64 0, .slice none 0 0, .slice none 0 0, .int .i64 0, .int .i64 0]) (cs := #[.int .i64 0, .slice none 0 0, .slice none 0 0, .int .i64 0, .int .i64 0]) rfl rfl (by decide) rfl (by kernel_rfl) rfl (fun b118 w119 hb118 HS => ?_)
  refine WL.storeS HS 0 (vs := [.int .i64 ((([x0.f1, x0.f2, x0.f3, x0.f4]).getD i74.toNat o44).f0), .slice A110 ((([x0.f1, x0.f2, x0.f3, x0.f4]).getD i74.toNat o44).f1.length) c111, .slice A114 ((([x0.f1, x0.f2, x0.f3, x0.f4]).getD i74.toNat o44).f2.length) c115, .int .i64 ((([x0.f1, x0.f2, x0.f3, x0.f4]).getD i74.toNat o44).f3), .int .i64 ((([x0.f1, x0.f2, x0.f3, x0.f4]).getD i74.toNat o44).f4)]) rfl rfl rfl rfl rfl rfl (one_cons rfl (one_cons rfl (one_cons rfl (one_cons rfl (one_cons rfl one_nil))))) (by kernel_rfl) (Nat.le_of_ble_eq_true rfl) (cs' := #[.int .i64 ((([x0.f1, x0.f2, x0.f3, x0.f4]).getD i74.toNat o44).f0), .slice A110 ((([x0.f1, x0.f2, x0.f3, x0.f4]).getD i74.toNat o44).f1.length) c111, .slice A114 ((([x0.f1, x0.f2, x0.f3, x0.f4]).getD i74.toNat o44).f2.length) c115, .int .i64 ((([x0.f1, x0.f2, x0.f3, x0.f4]).getD i74.toNat o44).f3), .int .i64 ((([x0.f1, x0.f2, x0.f3, x0.f4]).getD i74.toNat o44).f4)]) (by kernel_rfl) (fun w120 HS => ?_)
  refine dn_ hK104 ?_
  refine sr_ fun _ hK121 => ?_
  refine v_ (ls_ (HS.mu 0 rfl) Tryz.underlying44 part_all) ?_
  refine mv_ ?_
  refine mv_ ?_
  obtain ⟨t122, ha123, H⟩ := bind_some H
  refine cs_ HS Tryz.func63 (impl_withinBudget.calls k99 ((([x0.f1, x0.f2, x0.f3, x0.f4]).getD i74.toNat o44).f0) A110 c111 ((([x0.f1, x0.f2, x0.f3, x0.f4]).getD i74.toNat o44).f1) A114 c115 ((([x0.f1, x0.f2, x0.f3, x0.f4]).getD i74.toNat o44).f2) ((([x0.f1, x0.f2, x0.f3, x0.f4]).getD i74.toNat o44).f3) ((([x0.f1, x0.f2, x0.f3, x0.f4]).getD i74.toNat o44).f4) a1 a1 t122 _ (HS.getO 1 rfl) le113 (HS.getO 0 rfl) le117 ha123) (fun w124 HS => ?_)
  refine nt_ ?_
  refine dn_ hK121 ?_
  rcases eti_ H with ⟨c125, H⟩ | ⟨c125, H⟩
  · refine wy_ (nB (bF c125)) ?_
    refine sr_ fun _ hK126 => ?_
    refine as_ ?_
    refine dn_ hK126 ?_
    refine WC.ret ?_
    cases H
    rw [hG71] at Ho73
    replace H : some _ = some _ := Ho73
    cases H
    exact fin1 Tryz.f61 rfl rfl hR_ ⟨rfl, HS.b⟩
  refine wn_ (nB c125) ?_
  refine WC.skip ?_
  refine via_ hK103 ?_
  refine rg_ ?_
  refine b_ bin_add64 ?_
  refine mv_ ?_
  refine WL.done ?_
  exact WQ.round k99 (fun _ _ h_ => h_) (Nat.lt_succ_self _) ⟨(wrap64 (i74 + 1)), rfl, ⟨_, H, Ho73⟩, (St.pick (St.forget HS 0 rfl) (fun W_ h_ => ⟨AllF.get 3 rfl h_, AllF.get 4 rfl h_, AllF.get 5 rfl h_, AllF.get 6 rfl h_, AllF.get 7 rfl h_, AllF.get 8 rfl h_, AllF.get 9 rfl h_, AllF.get 10 rfl h_, AllF.get 11 rfl h_, AllF.get 12 rfl h_, AllF.get 13 rfl h_, AllF.get 14 rfl h_, AllF.get 15 rfl h_, trivial⟩) (fun W_ h_ => trivial))⟩ ⟨rfl, rfl, rfl, rfl, rfl, rfl, trivial⟩
def impl_Vocab.g (k : Nat) (x0 : S47) : Option Int := (some (wrap64 (256 + (x0.f3.length : Int))))
theorem impl_Vocab.runs (k : Nat) (cs0 : List Value) (x0 : S47) (r : Int) (w : World) (hk0 : k47.K w x0 cs0) (H : impl_Vocab.g k x0 = some r) :
    Calls Tryz.prog 55 #[.agg cs0.toArray] w fun e w' => e = .returned (.int .i64 r) ∧ Below w.heap.size w w' := by
  have el0 : cs0.length = 14 := k47.K_len hk0
  unfold impl_Vocab.g at H
  have HS : St (fun _ => True) w w [] [(fun W => k47.K W x0 cs0)] [] := St.start (foot_cons (foot_K h47 hk0) foot_nil)
  refine cw_ Tryz.func55 fun R_ hR_ => ?_
  refine sr_ fun _ hK1 => ?_
  refine bo_ HS (fun b2 w3 hb2 HS => ?_)
  refine as_ ?_
  refine dn_ hK1 ?_
  refine sr_ fun _ hK4 => ?_
  refine v_ (fa_ Tryz.underlying47) ?_
  obtain ⟨A5, c6, hc7, le8, HS⟩ := HS.sO 0 rfl at47_3
  refine v_ (lb_ (HS.mu 0 rfl) Tryz.underlying42 hc7) ?_
  refine ln_ Tryz.underlying42 ?_
  refine b_ bin_add64 ?_
  refine as_ ?_
  refine dn_ hK4 ?_
  cases H
  exact rt1 Tryz.f55 rfl rfl hR_ ⟨rfl, HS.b⟩
def impl_sizesOf_1.g (k : Nat) (a0 : Int) (l1 : List Int) : Option Int := (if a0 < 256 then (some 1) else (if 0 ≤ (wrap64 (a0 - 256)) ∧ (wrap64 (a0 - 256)) < (l1.length : Int) then (some (l1.getD (wrap64 (a0 - 256)).toNat 0)) else none))
theorem impl_sizesOf_1.runs (k : Nat) (a0 : Int) (b1 : Nat) (A1 : Option Addr) (c1 : Nat) (l1 : List Int) (r : Int) (w : World) (hr1 : (Kd.int .i64).C w A1 l1.length l1) (hc1 : l1.length ≤ c1) (hb1 : w.heap[b1]? = some (.cells #[.slice A1 l1.length c1] 28 (0, 0))) (H : impl_sizesOf_1.g k a0 l1 = some r) :
    Calls Tryz.prog 91 #[.int .i64 a0, .pointer (some ⟨b1, 0, none⟩)] w fun e w' => e = .returned (.int .i64 r) ∧ Below w.heap.size w w' := by
  unfold impl_sizesOf_1.g at H
  have HS : St (fun _ => True) w w [] [(fun W => (Kd.int .i64).C W A1 l1.length l1), (fun W => W.heap[b1]? = some (.cells #[.slice A1 l1.length c1] 28 (0, 0)))] [] := St.start (foot_cons (foot_C (Kd.heap_int _) hr1) (foot_cons (foot_rob hb1) foot_nil))
  refine cw_ Tryz.func91 fun R_ hR_ => ?_
  refine sr_ fun _ hK1 => ?_
  refine as_ ?_
  refine dn_ hK1 ?_
  refine WC.seq fun _ hK2 => ?_
  refine sr_ fun _ hK3 => ?_
  refine mv_ ?_
  refine b_ bin_lss ?_
  refine dn_ hK3 ?_
  rcases ite_ H with ⟨c4, H⟩ | ⟨c4, H⟩
  · refine wy_ (dT c4) ?_
    refine sr_ fun _ hK5 => ?_
    refine as_ ?_
    refine dn_ hK5 ?_
    cases H
    exact rt1 Tryz.f91 rfl rfl hR_ ⟨rfl, HS.b⟩
  refine wn_ (dF c4) ?_
  refine WC.skip ?_
  refine via_ hK2 ?_
  refine sr_ fun _ hK6 => ?_
  refine v_ (lb_ (HS.getO 1 rfl) Tryz.underlying28 rfl) ?_
  refine mv_ ?_
  refine b_ bin_sub64 ?_
  obtain ⟨⟨q7, q8⟩, H⟩ := if_some H
  obtain ⟨ad9, rfl⟩ := C_open (HS.getO 0 rfl) (by omega)
  refine v_ (ia_ Tryz.underlying28 1 q7 q8) ?_
  refine v_ (Run.load rfl rfl Tryz.underlying3 rfl (int_cell (HS.getO 0 rfl) (wrap64 (a0 - 256)) q7 q8)) ?_
  refine as_ ?_
  refine dn_ hK6 ?_
  cases H
  exact rt1 Tryz.f91 rfl rfl hR_ ⟨rfl, HS.b⟩
def impl_sizesOf.b0 (l0 : List S94) (rec_ : Int → (List Int) → Option (((List Int) × Bool) ⊕ (Int × (List Int)))) (k29 : Nat) (i17 : Int) (xs18 : List Int) : Option (((List Int) × Bool) ⊕ (Int × (List Int))) := (if i17 < (l0.length : Int) then (if 0 ≤ i17 ∧ i17 < (l0.length : Int) then ((impl_isToken.f ((l0.getD i17.toNat o94).f0) i17).bind fun t45 => (if t45 = true then ((impl_isToken.f ((l0.getD i17.toNat o94).f1) i17).bind fun t49 => (if t49 = true then ((impl_sizesOf_1.g k29 ((l0.getD i17.toNat o94).f0) xs18).bind fun t57 => ((impl_sizesOf_1.g k29 ((l0.getD i17.toNat o94).f1) xs18).bind fun t60 => (if (wrap64 (t57 + t60)) > 64 then (some (Sum.inl ([], false))) else (if (xs18.length) < 4294967296 then (rec_ (wrap64 (i17 + 1)) (xs18 ++ [wrap64 (t57 + t60)])) else none)))) else (some (Sum.inl ([], false))))) else (some (Sum.inl ([], false))))) else none) else (some (Sum.inr (i17, xs18))))
def impl_sizesOf.l0 (l0 : List S94) : Nat → Int → (List Int) → Option (((List Int) × Bool) ⊕ (Int × (List Int)))
  | 0, _, _ => none
  | k + 1, i17, xs18 => impl_sizesOf.b0 l0 (impl_sizesOf.l0 l0 k) k i17 xs18
def impl_sizesOf.g (k : Nat) (l0 : List S94) : Option ((List Int) × Bool) := ((impl_sizesOf.l0 l0 k 0 ([])).bind (fun o27 => match o27 with | .inl r_ => some r_ | .inr ⟨i17, xs18⟩ => (some (xs18, true))))
theorem impl_sizesOf.runs (k : Nat) (A0 : Option Addr) (c0 : Nat) (l0 : List S94) (r1 : List Int) (r2 : Bool) (w : World) (hr0 : k94.C w A0 l0.length l0) (hc0 : l0.length ≤ c0) (H : impl_sizesOf.g k l0 = some (r1, r2)) :
    Calls Tryz.prog 75 #[.slice A0 l0.length c0] w fun e w' => ∃ (A0_ : Option Addr) (c0_ : Nat), e = .returned (.tuple #[.slice A0_ r1.length c0_, .bool r2]) ∧ r1.length ≤ c0_ ∧ Foot (fun W => (Kd.int .i64).C W A0_ r1.length r1) w' (fun k_ => w.heap.size ≤ k_) ∧ Below w.heap.size w w' := by
  unfold impl_sizesOf.g at H
  have HS : St (fun _ => True) w w [] [(fun W => k94.C W A0 l0.length l0)] [] := St.start (foot_cons (foot_C h94 hr0) foot_nil)
  refine cw_ Tryz.func75 fun R_ hR_ => ?_
  refine sr_ fun _ hK1 => ?_
  refine as_ ?_
  refine as_ ?_
  refine dn_ hK1 ?_
  refine sr_ fun _ hK2 => ?_
  refine WL.lit0 HS rfl rfl (by decide) rfl Tryz.underlying28 (sz := 1) (by kernel_rfl) (fun v3 w4 HS => ?_)
  replace HS := HS.deriveN (p := (fun W => Reps ((Kd.int .i64).K W) (Kd.int .i64).sz ([] : List Int) [])) (fun _ _ => Reps.none _ _)
  refine WL.alloc HS (v := .slice none 0 0) (cs := #[.slice none 0 0]) rfl rfl (by decide) rfl (by kernel_rfl) rfl (fun b5 w6 hb5 HS => ?_)
  obtain ⟨A8, c9, rfl⟩ := row_slice (HS.mu 1 rfl)
  refine WL.store HS 0 rfl rfl rfl rfl rfl rfl rfl (by kernel_rfl) (Nat.le_of_ble_eq_true rfl) (cs' := #[(.slice A8 0 c9)]) (by kernel_rfl) (fun w7 HS => ?_)
  refine dn_ hK2 ?_
  refine sr_ fun _ hK10 => ?_
  refine v_ (Run.makeFunc (cap := [.pointer (some ⟨b5, 0, none⟩)]) rfl rfl) ?_
  refine as_ ?_
  refine dn_ hK10 ?_
  refine WC.seq fun K11 hK11 => ?_
  refine sr_ fun _ hK12 => ?_
  refine mv_ ?_
  refine ln_ Tryz.underlying42 ?_
  refine mv_ ?_
  refine dn_ hK12 ?_
  refine WC.block ?_
  obtain ⟨G13, hG14, o15, H, Ho16⟩ := open_G H
  have X21 : ∀ E_ W_, (∃ (i17 : Int) (xs18 : List Int) (v19 : Value) (I20 : List Value), E_ = [(4, .pointer (some ⟨b5, 0, none⟩)), (5, .func (.func 91) #[] #[.pointer (some ⟨b5, 0, none⟩)]), (11, .slice A0 l0.length c0), (12, .int .i64 (l0.length : Int)), (13, .int .i64 i17)] ∧ G13 (Sum.inr (i17, xs18)) = some (r1, r2) ∧ St (fun _ => True) w W_ [boxM b5 #[v19] 28, rowM w.heap.size 3 1 v19 xs18.length I20] [(fun W => k94.C W A0 l0.length l0)] [(fun W => Reps ((Kd.int .i64).K W) (Kd.int .i64).sz xs18 I20)]) → ∀ a, Fits a 47 E_ → K11 a W_ := by
    rintro E_ w22 ⟨i17, xs18, v19, I20, rfl, H, HS⟩
    rw [hG14] at H
    (try dsimp only at H)
    refine hK11 _ _ ?_
    refine sr_ fun _ hK23 => ?_
    obtain ⟨A24, c25, rfl⟩ := row_slice (HS.mu 1 rfl)
    refine v_ (lb_ (HS.mu 0 rfl) Tryz.underlying28 rfl) ?_
    refine as_ ?_
    refine as_ ?_
    refine dn_ hK23 ?_
    refine WC.ret ?_
    have le26 := row_le (HS.mu 1 rfl)
    replace HS := HS.freezeN 1 (p := (fun W => (Kd.int .i64).C W A24 (xs18).length (xs18))) rfl (fun W_ hm_ h_ => row_C (by rfl) hm_ (AllF.get 0 rfl h_))
    cases H
    exact fin2 Tryz.f75 rfl rfl rfl hR_ ⟨_, _, rfl, le26, (foot_fresh (HS.footN 0 rfl)), HS.b⟩
  refine WC.loop (fun k_ E_ W_ => ∃ (i17 : Int) (xs18 : List Int) (v19 : Value) (I20 : List Value), E_ = [(4, .pointer (some ⟨b5, 0, none⟩)), (5, .func (.func 91) #[] #[.pointer (some ⟨b5, 0, none⟩)]), (11, .slice A0 l0.length c0), (12, .int .i64 (l0.length : Int)), (13, .int .i64 i17)] ∧ (∃ o_, impl_sizesOf.l0 l0 k_ i17 xs18 = some o_ ∧ G13 o_ = some (r1, r2)) ∧ St (fun _ => True) w W_ [boxM b5 #[v19] 28, rowM w.heap.size 3 1 v19 xs18.length I20] [(fun W => k94.C W A0 l0.length l0)] [(fun W => Reps ((Kd.int .i64).K W) (Kd.int .i64).sz xs18 I20)]) k ⟨0, ([]), (.slice A8 0 c9), ([]), rfl, ⟨_, H, Ho16⟩, (St.pick HS (fun W_ h_ => ⟨AllF.get 0 rfl h_, trivial⟩) (fun W_ h_ => ⟨AllF.get 0 rfl h_, trivial⟩))⟩ ⟨rfl, rfl, rfl, rfl, rfl, trivial⟩ ?_
  rintro k_ E_ w28 ⟨i17, xs18, v19, I20, rfl, ⟨o15, H, Ho16⟩, HS⟩
  rcases k_ with _ | k29
  · exact no_ H
  replace H : impl_sizesOf.b0 l0 (impl_sizesOf.l0 l0 k29) k29 i17 xs18 = some o15 := H
  unfold impl_sizesOf.b0 at H
  refine sr_ fun _ hK30 => ?_
  refine b_ bin_lss ?_
  refine dn_ hK30 ?_
  refine WC.seq fun _ hK31 => ?_
  rcases eti_ H with ⟨c32, H⟩ | ⟨c32, H⟩
  · refine wn_ (dF c32) ?_
    refine WC.exit ?_
    cases H
    exact WQ.via2 (fun _ _ h_ => h_) X21 ⟨i17, xs18, v19, I20, rfl, Ho16, (St.pick HS (fun W_ h_ => ⟨AllF.get 0 rfl h_, trivial⟩) (fun W_ h_ => ⟨AllF.get 0 rfl h_, trivial⟩))⟩ ⟨rfl, rfl, rfl, rfl, rfl, trivial⟩
  refine wy_ (dT c32) ?_
  refine WC.skip ?_
  refine via_ hK31 ?_
  refine WC.seq fun _ hK33 => ?_
  refine WC.block ?_
  refine sr_ fun _ hK34 => ?_
  refine mv_ ?_
  obtain ⟨⟨q35, q36⟩, H⟩ := if_some H
  obtain ⟨ad37, rfl⟩ := C_open (HS.getO 0 rfl) (by omega)
  refine v_ (ia_ Tryz.underlying42 2 q35 q36) ?_
  obtain ⟨e38, el39, HS⟩ := HS.elO 0 rfl (by decide) o94 i17 q35 q36
  refine v_ (Run.loadS (cs := [.int .i64 ((l0.getD i17.toNat o94).f0), .int .i64 ((l0.getD i17.toNat o94).f1)]) rfl rfl Tryz.underlying94 rfl (by kernel_rfl) (cells_part (HS.getO 0 rfl).2 (part_cons (at94_0 (AtK.whole (HS.getO 0 rfl).1)).int (part_cons (at94_1 (AtK.whole (HS.getO 0 rfl).1)).int part_nil)))) ?_
  refine WL.alloc HS (v := .agg #[.int .i64 0, .int .i64 0]) (cs := #[.int .i64 0, .int .i64 0]) rfl rfl (by decide) rfl (by kernel_rfl) rfl (fun b40 w41 hb40 HS => ?_)
  refine as_ ?_
  refine WL.storeS HS 0 (vs := [.int .i64 ((l0.getD i17.toNat o94).f0), .int .i64 ((l0.getD i17.toNat o94).f1)]) rfl rfl rfl rfl rfl rfl (one_cons rfl (one_cons rfl one_nil)) (by kernel_rfl) (Nat.le_of_ble_eq_true rfl) (cs' := #[.int .i64 ((l0.getD i17.toNat o94).f0), .int .i64 ((l0.getD i17.toNat o94).f1)]) (by kernel_rfl) (fun w42 HS => ?_)
  refine dn_ hK34 ?_
  refine WC.seq fun _ hK43 => ?_
  refine sr_ fun _ hK44 => ?_
  refine v_ (fa_ Tryz.underlying94) ?_
  refine v_ (lb_ (HS.mu 0 rfl) Tryz.underlying3 rfl) ?_
  refine mv_ ?_
  obtain ⟨t45, ha46, H⟩ := bind_some H
  refine cs0_ HS Tryz.func92 (impl_isToken.calls ((l0.getD i17.toNat o94).f0) i17 t45 _ ha46) (fun w47 HS => ?_)
  refine nt_ ?_
  refine mv_ ?_
  rcases eti_ H with ⟨c48, H⟩ | ⟨c48, H⟩
  · refine off_ (c' := true) (nB (bF c48)) ?_
    refine WL.know 23 (nB (bF c48)) ?_
    refine fast_ ?_
    refine via_ hK44 ?_
    refine wy_ rfl ?_
    refine sr_ fun _ hK76 => ?_
    refine as_ ?_
    refine as_ ?_
    refine dn_ hK76 ?_
    refine WC.ret ?_
    cases H
    rw [hG14] at Ho16
    replace H : some _ = some _ := Ho16
    cases H
    exact fin2 Tryz.f75 rfl rfl rfl hR_ ⟨_, _, rfl, (Nat.le_refl _), (fun W_ _ => Kd.C_nil _ _), HS.b⟩
  refine on_ (nB c48) ?_
  refine v_ (fa_ Tryz.underlying94) ?_
  refine on_ (nB c48) ?_
  refine v_ (lb_ (HS.mu 0 rfl) Tryz.underlying3 rfl) ?_
  refine on_ (nB c48) ?_
  refine mv_ ?_
  refine on_ (nB c48) ?_
  obtain ⟨t49, ha50, H⟩ := bind_some H
  refine cs0_ HS Tryz.func92 (impl_isToken.calls ((l0.getD i17.toNat o94).f1) i17 t49 _ ha50) (fun w51 HS => ?_)
  refine on_ (nB c48) ?_
  refine nt_ ?_
  refine v_ (Run.pickF rfl rfl (nB c48) rfl) ?_
  refine dn_ hK44 ?_
  rcases eti_ H with ⟨c52, H⟩ | ⟨c52, H⟩
  · refine wy_ (nB (bF c52)) ?_
    refine sr_ fun _ hK75 => ?_
    refine as_ ?_
    refine as_ ?_
    refine dn_ hK75 ?_
    refine WC.ret ?_
    cases H
    rw [hG14] at Ho16
    replace H : some _ = some _ := Ho16
    cases H
    exact fin2 Tryz.f75 rfl rfl rfl hR_ ⟨_, _, rfl, (Nat.le_refl _), (fun W_ _ => Kd.C_nil _ _), HS.b⟩
  refine wn_ (nB c52) ?_
  refine WC.skip ?_
  refine via_ hK43 ?_
  refine WC.seq fun _ hK53 => ?_
  refine WC.drawS HS [] rfl rfl (fun w54 HS => ?_)
  have HB := Below.refl w54.heap.size w54
  have HSW := HS
  refine dm_ 0 ?_
  refine df_ 1 Tryz.underlying94 ?_
  refine dm_ 4 ?_
  refine df_ 5 Tryz.underlying94 ?_
  refine bl_ 2 HS (Below.refl _ _) 0 Tryz.underlying3 rfl ?_
  refine bl_ 6 HS (Below.refl _ _) 0 Tryz.underlying3 rfl ?_
  obtain ⟨A55, c56, rfl⟩ := row_slice (HS.mu 2 rfl)
  obtain ⟨t57, ha58, H⟩ := bind_some H
  refine dcv_ (args := [.int .i64 ((l0.getD i17.toNat o94).f0)]) (cap := [.pointer (some ⟨b5, 0, none⟩)]) 3 (w_none rfl) Tryz.func91 (impl_sizesOf_1.runs k29 ((l0.getD i17.toNat o94).f0) b5 A55 c56 xs18 t57 _ (row_C rfl (HS.mu 2 rfl) (HS.getN 0 rfl)) (row_le (HS.mu 2 rfl)) (HS.mu 1 rfl) ha58) ?_
  rintro _ w59 ⟨rfl, hb⟩
  replace HB := HB.trans (hb.mono HB.size)
  replace HS := HS.below hb
  refine ⟨HB, _, rfl, ?_⟩
  clear hb
  obtain ⟨t60, ha61, H⟩ := bind_some H
  refine dcv_ (args := [.int .i64 ((l0.getD i17.toNat o94).f1)]) (cap := [.pointer (some ⟨b5, 0, none⟩)]) 7 (w_none rfl) Tryz.func91 (impl_sizesOf_1.runs k29 ((l0.getD i17.toNat o94).f1) b5 A55 c56 xs18 t60 _ (row_C rfl (HS.mu 2 rfl) (HS.getN 0 rfl)) (row_le (HS.mu 2 rfl)) (HS.mu 1 rfl) ha61) ?_
  rintro _ w62 ⟨rfl, hb⟩
  replace HB := HB.trans (hb.mono HB.size)
  replace HS := HS.below hb
  refine ⟨HB, _, rfl, ?_⟩
  clear hb
  refine dp_ 8 (fun _ => Run.bin rfl rfl rfl bin_add64) ?_
  refine dp_ 9 (fun _ => Run.assign rfl rfl) ?_
  refine dd_ ?_
  clear HB HSW
  refine via_ hK53 ?_
  refine WC.seq fun _ hK63 => ?_
  refine sr_ fun _ hK64 => ?_
  refine mv_ ?_
  refine b_ bin_gtr ?_
  refine dn_ hK64 ?_
  rcases ite_ H with ⟨c65, H⟩ | ⟨c65, H⟩
  · refine wy_ (dT c65) ?_
    refine sr_ fun _ hK66 => ?_
    refine as_ ?_
    refine as_ ?_
    refine dn_ hK66 ?_
    refine WC.ret ?_
    cases H
    rw [hG14] at Ho16
    replace H : some _ = some _ := Ho16
    cases H
    exact fin2 Tryz.f75 rfl rfl rfl hR_ ⟨_, _, rfl, (Nat.le_refl _), (fun W_ _ => Kd.C_nil _ _), HS.b⟩
  refine wn_ (dF c65) ?_
  refine WC.skip ?_
  refine via_ hK63 ?_
  refine rg_ ?_
  refine v_ (lb_ (HS.mu 1 rfl) Tryz.underlying28 rfl) ?_
  refine mv_ ?_
  refine WL.val rfl rfl (by decide) (Run.lit1 (z := (.int .i64 0)) (vs := [.int .i64 (wrap64 (t57 + t60))]) rfl rfl rfl Tryz.underlying28 (by kernel_rfl) (Nat.le_of_ble_eq_true rfl) (Nat.le_of_ble_eq_true rfl)) ?_
  have HS1 := HS.below (below_alloc (Below.refl _ _) (.cells #[.int .i64 (wrap64 (t57 + t60))] 3))
  obtain ⟨q67, H⟩ := if_some H
  refine WL.append HS1 2 rfl rfl rfl (by decide) rfl (.int .i64 0) 8 Tryz.underlying28 (by kernel_rfl) rfl (by decide) (by decide) rfl rfl [.int .i64 (wrap64 (t57 + t60))] rfl (lit_news _ _ _) (one_cons rfl one_nil) (by omega) ((xs18 ++ [wrap64 (t57 + t60)]).length) (by simp) (fun v68 w69 I70 hI71 HS => ?_)
  replace HS := HS.deriveN (p := (fun W => Reps ((Kd.int .i64).K W) (Kd.int .i64).sz (xs18 ++ [wrap64 (t57 + t60)]) I70)) (fun W_ hN_ => reps_snoc hI71 (AllF.get 0 rfl hN_) (K_int _))
  clear HS1
  obtain ⟨A73, c74, rfl⟩ := row_slice (HS.mu 2 rfl)
  refine WL.store HS 1 rfl rfl rfl rfl rfl rfl rfl (by kernel_rfl) (Nat.le_of_ble_eq_true rfl) (cs' := #[(.slice A73 ((xs18 ++ [wrap64 (t57 + t60)]).length) c74)]) (by kernel_rfl) (fun w72 HS => ?_)
  refine dn_ hK33 ?_
  refine rg_ ?_
  refine b_ bin_add64 ?_
  refine mv_ ?_
  refine WL.done ?_
  exact WQ.round k29 (fun _ _ h_ => h_) (Nat.lt_succ_self _) ⟨(wrap64 (i17 + 1)), (xs18 ++ [wrap64 (t57 + t60)]), (.slice A73 ((xs18 ++ [wrap64 (t57 + t60)]).length) c74), I70, rfl, ⟨_, H, Ho16⟩, (St.pick (St.forget HS 0 rfl) (fun W_ h_ => ⟨AllF.get 1 rfl h_, trivial⟩) (fun W_ h_ => ⟨AllF.get 0 rfl h_, trivial⟩))⟩ ⟨rfl, rfl, rfl, rfl, rfl, trivial⟩
def impl_MergesOk.b0 (l0 : List S94) (rec_ : Int → Option (Bool ⊕ Int)) (k26 : Nat) (i12 : Int) : Option (Bool ⊕ Int) := (if i12 < (l0.length : Int) then (if 0 ≤ i12 ∧ i12 < (l0.length : Int) then (if 0 ≤ i12 ∧ i12 ≤ (l0.length : Int) then ((impl_Merge_74.f k26 (l0.take i12.toNat) ((l0.getD i12.toNat o94).f0) ((l0.getD i12.toNat o94).f1)).bind fun t49 => (if t49 = true then (some (Sum.inl false)) else (rec_ (wrap64 (i12 + 1))))) else none) else none) else (some (Sum.inr i12)))
def impl_MergesOk.l0 (l0 : List S94) : Nat → Int → Option (Bool ⊕ Int)
  | 0, _ => none
  | k + 1, i12 => impl_MergesOk.b0 l0 (impl_MergesOk.l0 l0 k) k i12
def impl_MergesOk.g (k : Nat) (l0 : List S94) : Option Bool := (if (l0.length : Int) > 16 then (some false) else ((impl_MergesOk.l0 l0 k 0).bind (fun o24 => match o24 with | .inl r_ => some r_ | .inr i12 => ((impl_sizesOf.g k l0).bind fun t16 => (some t16.2)))))
theorem impl_MergesOk.runs (k : Nat) (A0 : Option Addr) (c0 : Nat) (l0 : List S94) (r : Bool) (w : World) (hr0 : k94.C w A0 l0.length l0) (hc0 : l0.length ≤ c0) (H : impl_MergesOk.g k l0 = some r) :
    Calls Tryz.prog 54 #[.slice A0 l0.length c0] w fun e w' => e = .returned (.bool r) ∧ Below w.heap.size w w' := by
  unfold impl_MergesOk.g at H
  have HS : St (fun _ => True) w w [] [(fun W => k94.C W A0 l0.length l0)] [] := St.start (foot_cons (foot_C h94 hr0) foot_nil)
  refine cw_ Tryz.func54 fun R_ hR_ => ?_
  refine sr_ fun _ hK1 => ?_
  refine as_ ?_
  refine dn_ hK1 ?_
  refine WC.seq fun _ hK2 => ?_
  refine sr_ fun _ hK3 => ?_
  refine mv_ ?_
  refine ln_ Tryz.underlying42 ?_
  refine b_ bin_gtr ?_
  refine dn_ hK3 ?_
  rcases ite_ H with ⟨c4, H⟩ | ⟨c4, H⟩
  · refine wy_ (dT c4) ?_
    refine sr_ fun _ hK5 => ?_
    refine as_ ?_
    refine dn_ hK5 ?_
    cases H
    exact rt1 Tryz.f54 rfl rfl hR_ ⟨rfl, HS.b⟩
  refine wn_ (dF c4) ?_
  refine WC.skip ?_
  refine via_ hK2 ?_
  refine WC.seq fun K6 hK6 => ?_
  refine sr_ fun _ hK7 => ?_
  refine mv_ ?_
  refine ln_ Tryz.underlying42 ?_
  refine mv_ ?_
  refine dn_ hK7 ?_
  refine WC.block ?_
  obtain ⟨G8, hG9, o10, H, Ho11⟩ := open_G H
  have X13 : ∀ E_ W_, (∃ (i12 : Int), E_ = [(0, .slice A0 l0.length c0), (10, .slice A0 l0.length c0), (11, .int .i64 (l0.length : Int)), (12, .int .i64 i12)] ∧ G8 (Sum.inr i12) = some r ∧ St (fun _ => True) w W_ [] [(fun W => k94.C W A0 l0.length l0)] []) → ∀ a, Fits a 29 E_ → K6 a W_ := by
    rintro E_ w14 ⟨i12, rfl, H, HS⟩
    rw [hG9] at H
    (try dsimp only at H)
    refine hK6 _ _ ?_
    refine sr_ fun _ hK15 => ?_
    refine mv_ ?_
    obtain ⟨t16, ha17, H⟩ := bind_some H
    refine c_ Tryz.func75 (impl_sizesOf.runs k A0 c0 l0 t16.1 t16.2 _ (HS.getO 0 rfl) hc0 ha17) ?_
    rintro _ w18 ⟨A19, c20, rfl, le21, hf22, hb⟩
    replace HS := HS.newNs hb (foot_cons hf22 foot_nil)
    refine ⟨_, rfl, ?_⟩
    clear hb
    refine mv_ ?_
    refine v_ (Run.extract rfl rfl rfl) ?_
    refine v_ (Run.extract rfl rfl rfl) ?_
    refine as_ ?_
    refine as_ ?_
    refine dn_ hK15 ?_
    refine sr_ fun _ hK23 => ?_
    refine mv_ ?_
    refine as_ ?_
    refine dn_ hK23 ?_
    cases H
    exact rt1 Tryz.f54 rfl rfl hR_ ⟨rfl, HS.b⟩
  refine WC.loop (fun k_ E_ W_ => ∃ (i12 : Int), E_ = [(0, .slice A0 l0.length c0), (10, .slice A0 l0.length c0), (11, .int .i64 (l0.length : Int)), (12, .int .i64 i12)] ∧ (∃ o_, impl_MergesOk.l0 l0 k_ i12 = some o_ ∧ G8 o_ = some r) ∧ St (fun _ => True) w W_ [] [(fun W => k94.C W A0 l0.length l0)] []) k ⟨0, rfl, ⟨_, H, Ho11⟩, (St.pick HS (fun W_ h_ => ⟨AllF.get 0 rfl h_, trivial⟩) (fun W_ h_ => trivial))⟩ ⟨rfl, rfl, rfl, rfl, trivial⟩ ?_
  rintro k_ E_ w25 ⟨i12, rfl, ⟨o10, H, Ho11⟩, HS⟩
  rcases k_ with _ | k26
  · exact no_ H
  replace H : impl_MergesOk.b0 l0 (impl_MergesOk.l0 l0 k26) k26 i12 = some o10 := H
  unfold impl_MergesOk.b0 at H
  refine sr_ fun _ hK27 => ?_
  refine b_ bin_lss ?_
  refine dn_ hK27 ?_
  refine WC.seq fun _ hK28 => ?_
  rcases eti_ H with ⟨c29, H⟩ | ⟨c29, H⟩
  · refine wn_ (dF c29) ?_
    refine WC.exit ?_
    cases H
    exact WQ.via2 (fun _ _ h_ => h_) X13 ⟨i12, rfl, Ho11, (St.pick HS (fun W_ h_ => ⟨AllF.get 0 rfl h_, trivial⟩) (fun W_ h_ => trivial))⟩ ⟨rfl, rfl, rfl, rfl, trivial⟩
  refine wy_ (dT c29) ?_
  refine WC.skip ?_
  refine via_ hK28 ?_
  refine WC.seq fun _ hK30 => ?_
  refine WC.block ?_
  refine sr_ fun _ hK31 => ?_
  refine mv_ ?_
  obtain ⟨⟨q32, q33⟩, H⟩ := if_some H
  obtain ⟨ad34, rfl⟩ := C_open (HS.getO 0 rfl) (by omega)
  refine v_ (ia_ Tryz.underlying42 2 q32 q33) ?_
  obtain ⟨e35, el36, HS⟩ := HS.elO 0 rfl (by decide) o94 i12 q32 q33
  refine v_ (Run.loadS (cs := [.int .i64 ((l0.getD i12.toNat o94).f0), .int .i64 ((l0.getD i12.toNat o94).f1)]) rfl rfl Tryz.underlying94 rfl (by kernel_rfl) (cells_part (HS.getO 0 rfl).2 (part_cons (at94_0 (AtK.whole (HS.getO 0 rfl).1)).int (part_cons (at94_1 (AtK.whole (HS.getO 0 rfl).1)).int part_nil)))) ?_
  refine WL.alloc HS (v := .agg #[.int .i64 0, .int .i64 0]) (cs := #[.int .i64 0, .int .i64 0]) rfl rfl (by decide) rfl (by kernel_rfl) rfl (fun b37 w38 hb37 HS => ?_)
  refine as_ ?_
  refine WL.storeS HS 0 (vs := [.int .i64 ((l0.getD i12.toNat o94).f0), .int .i64 ((l0.getD i12.toNat o94).f1)]) rfl rfl rfl rfl rfl rfl (one_cons rfl (one_cons rfl one_nil)) (by kernel_rfl) (Nat.le_of_ble_eq_true rfl) (cs' := #[.int .i64 ((l0.getD i12.toNat o94).f0), .int .i64 ((l0.getD i12.toNat o94).f1)]) (by kernel_rfl) (fun w39 HS => ?_)
  refine dn_ hK31 ?_
  refine WC.seq fun _ hK40 => ?_
  refine WC.drawS HS [] rfl rfl (fun w41 HS => ?_)
  have HB := Below.refl w41.heap.size w41
  have HSW := HS
  refine dm_ 0 ?_
  refine dm_ 1 ?_
  obtain ⟨⟨q42, q43⟩, H⟩ := if_some H
  obtain ⟨A44, c45, he46, le47, hf48⟩ := slc_take k94 (some ad34) c0 l0 i12 q42 q43 hc0
  replace HS := HS.deriveO (p := (fun W => k94.C W A44 (l0.take i12.toNat).length (l0.take i12.toNat))) (fun W_ hO_ hN_ => hf48 W_ (AllF.get 1 rfl hO_))
  refine dp_ 2 (fun _ => Run.eqv he46 (Run.slH rfl Tryz.underlying42 (by kernel_rfl) rfl rfl q42 (Int.le_trans q43 (Int.ofNat_le.mpr hc0)))) ?_
  refine dt_ 3 (Below.refl _ _) (fun w_ hw_ => Run.loadS (cs := [.int .i64 ((l0.getD i12.toNat o94).f0), .int .i64 ((l0.getD i12.toNat o94).f1)]) rfl rfl Tryz.underlying94 rfl (by kernel_rfl) (box_part ((HS.below hw_).mu 0 rfl) part_all)) ?_
  obtain ⟨t49, ha50, H⟩ := bind_some H
  refine dcs_ HS HB 4 (w_none rfl) Tryz.func74 (impl_Merge_74.calls k26 A44 c45 (l0.take i12.toNat) ((l0.getD i12.toNat o94).f0) ((l0.getD i12.toNat o94).f1) t49 _ (HS.getO 0 rfl) le47 ha50) (fun w51 HS HB => ?_)
  refine dd_ ?_
  clear HB HSW
  refine via_ hK40 ?_
  rcases ite_ H with ⟨c52, H⟩ | ⟨c52, H⟩
  · refine wy_ c52 ?_
    refine sr_ fun _ hK53 => ?_
    refine as_ ?_
    refine dn_ hK53 ?_
    refine WC.ret ?_
    cases H
    rw [hG9] at Ho11
    replace H : some _ = some _ := Ho11
    cases H
    exact fin1 Tryz.f54 rfl rfl hR_ ⟨rfl, HS.b⟩
  refine wn_ (bF c52) ?_
  refine WC.skip ?_
  refine via_ hK30 ?_
  refine rg_ ?_
  refine b_ bin_add64 ?_
  refine mv_ ?_
  refine WL.done ?_
  exact WQ.round k26 (fun _ _ h_ => h_) (Nat.lt_succ_self _) ⟨(wrap64 (i12 + 1)), rfl, ⟨_, H, Ho11⟩, (St.pick (St.forget HS 0 rfl) (fun W_ h_ => ⟨AllF.get 2 rfl h_, trivial⟩) (fun W_ h_ => trivial))⟩ ⟨rfl, rfl, rfl, rfl, trivial⟩
def impl_ModelOk_1.g (k : Nat) (l0 : List Int) (x1 : S47) : Option Bool := (if (l0.length : Int) = x1.f0 then ((impl_allIn.f l0 (-127) 127).bind fun t4 => (some (!t4))) else (some true))
theorem impl_ModelOk_1.runs (k : Nat) (A0 : Option Addr) (c0 : Nat) (l0 : List Int) (b1 : Nat) (cs1 : List Value) (x1 : S47) (r : Bool) (w : World) (hr0 : (Kd.int .i64).C w A0 l0.length l0) (hc0 : l0.length ≤ c0) (hk1 : k47.K w x1 cs1) (hb1 : w.heap[b1]? = some (.cells cs1.toArray 47 (0, 0))) (H : impl_ModelOk_1.g k l0 x1 = some r) :
    Calls Tryz.prog 57 #[.slice A0 l0.length c0, .pointer (some ⟨b1, 0, none⟩)] w fun e w' => e = .returned (.bool r) ∧ Below w.heap.size w w' := by
  have el1 : cs1.length = 14 := k47.K_len hk1
  unfold impl_ModelOk_1.g at H
  have HS : St (fun _ => True) w w [] [(fun W => (Kd.int .i64).C W A0 l0.length l0), (fun W => k47.K W x1 cs1), (fun W => W.heap[b1]? = some (.cells cs1.toArray 47 (0, 0)))] [] := St.start (foot_cons (foot_C (Kd.heap_int _) hr0) (foot_cons (foot_K h47 hk1) (foot_cons (foot_rob hb1) foot_nil)))
  refine cw_ Tryz.func57 fun R_ hR_ => ?_
  refine sr_ fun _ hK1 => ?_
  refine as_ ?_
  refine dn_ hK1 ?_
  refine sr_ fun _ hK2 => ?_
  refine mv_ ?_
  refine ln_ Tryz.underlying28 ?_
  refine v_ (fa_ Tryz.underlying47) ?_
  refine v_ (lb_ (HS.getO 2 rfl) Tryz.underlying3 (at47_0 (HS.aO 1 rfl)).int) ?_
  refine b_ bin_neq ?_
  refine mv_ ?_
  rcases eti_ H with ⟨c3, H⟩ | ⟨c3, H⟩
  · refine off_ (c' := true) (qT c3) ?_
    refine WL.know 9 (qT c3) ?_
    refine fast_ ?_
    refine via_ hK2 ?_
    cases H
    exact rt1 Tryz.f57 rfl rfl hR_ ⟨rfl, HS.b⟩
  refine on_ (qF c3) ?_
  refine mv_ ?_
  refine on_ (qF c3) ?_
  obtain ⟨t4, ha5, H⟩ := bind_some H
  refine cs_ HS Tryz.func58 (impl_allIn.calls A0 c0 l0 (-127) 127 t4 _ (HS.getO 0 rfl) hc0 ha5) (fun w6 HS => ?_)
  refine on_ (qF c3) ?_
  refine nt_ ?_
  refine v_ (Run.pickF rfl rfl (qF c3) rfl) ?_
  refine as_ ?_
  refine dn_ hK2 ?_
  cases H
  exact rt1 Tryz.f57 rfl rfl hR_ ⟨rfl, HS.b⟩
def slices_IndexFunc_int_int_57.b0 (l0 : List (List Int)) (x1c0 : S47) (rec_ : Int → Option (Int ⊕ Int)) (k14 : Nat) (i8 : Int) : Option (Int ⊕ Int) := (if i8 < (l0.length : Int) then (if 0 ≤ i8 ∧ i8 < (l0.length : Int) then ((impl_ModelOk_1.g k14 (l0.getD i8.toNat []) x1c0).bind fun t27 => (if t27 = true then (some (Sum.inl i8)) else (rec_ (wrap64 (i8 + 1))))) else none) else (some (Sum.inr i8)))
def slices_IndexFunc_int_int_57.l0 (l0 : List (List Int)) (x1c0 : S47) : Nat → Int → Option (Int ⊕ Int)
  | 0, _ => none
  | k + 1, i8 => slices_IndexFunc_int_int_57.b0 l0 x1c0 (slices_IndexFunc_int_int_57.l0 l0 x1c0 k) k i8
def slices_IndexFunc_int_int_57.g (k : Nat) (l0 : List (List Int)) (x1c0 : S47) : Option Int := ((slices_IndexFunc_int_int_57.l0 l0 x1c0 k 0).bind (fun o12 => match o12 with | .inl r_ => some r_ | .inr i8 => (some (-1))))
theorem slices_IndexFunc_int_int_57.runs (k : Nat) (A0 : Option Addr) (c0 : Nat) (l0 : List (List Int)) (b1c0 : Nat) (cs1c0 : List Value) (x1c0 : S47) (r : Int) (w : World) (hr0 : (Kd.slice 3 (Kd.int .i64)).C w A0 l0.length l0) (hc0 : l0.length ≤ c0) (hk1c0 : k47.K w x1c0 cs1c0) (hb1c0 : w.heap[b1c0]? = some (.cells cs1c0.toArray 47 (0, 0))) (H : slices_IndexFunc_int_int_57.g k l0 x1c0 = some r) :
    Calls Tryz.prog 76 #[.slice A0 l0.length c0, .func (.func 57) #[] #[.pointer (some ⟨b1c0, 0, none⟩)]] w fun e w' => e = .returned (.int .i64 r) ∧ Below w.heap.size w w' := by
  have el1c0 : cs1c0.length = 14 := k47.K_len hk1c0
  unfold slices_IndexFunc_int_int_57.g at H
  have HS : St (fun _ => True) w w [] [(fun W => (Kd.slice 3 (Kd.int .i64)).C W A0 l0.length l0), (fun W => k47.K W x1c0 cs1c0), (fun W => W.heap[b1c0]? = some (.cells cs1c0.toArray 47 (0, 0)))] [] := St.start (foot_cons (foot_C (Kd.heap_slice _ (Kd.heap_int _)) hr0) (foot_cons (foot_K h47 hk1c0) (foot_cons (foot_rob hb1c0) foot_nil)))
  refine cw_ Tryz.func76 fun R_ hR_ => ?_
  refine sr_ fun _ hK1 => ?_
  refine as_ ?_
  refine dn_ hK1 ?_
  refine WC.seq fun K2 hK2 => ?_
  refine sr_ fun _ hK3 => ?_
  refine mv_ ?_
  refine ln_ Tryz.underlying26 ?_
  refine mv_ ?_
  refine dn_ hK3 ?_
  refine WC.block ?_
  obtain ⟨G4, hG5, o6, H, Ho7⟩ := open_G H
  have X9 : ∀ E_ W_, (∃ (i8 : Int), E_ = [(0, .slice A0 l0.length c0), (1, .func (.func 57) #[] #[.pointer (some ⟨b1c0, 0, none⟩)]), (7, .int .i64 (l0.length : Int)), (8, .int .i64 i8)] ∧ G4 (Sum.inr i8) = some r ∧ St (fun _ => True) w W_ [] [(fun W => (Kd.slice 3 (Kd.int .i64)).C W A0 l0.length l0), (fun W => k47.K W x1c0 cs1c0), (fun W => W.heap[b1c0]? = some (.cells cs1c0.toArray 47 (0, 0)))] []) → ∀ a, Fits a 19 E_ → K2 a W_ := by
    rintro E_ w10 ⟨i8, rfl, H, HS⟩
    rw [hG5] at H
    (try dsimp only at H)
    refine hK2 _ _ ?_
    refine sr_ fun _ hK11 => ?_
    refine as_ ?_
    refine dn_ hK11 ?_
    cases H
    exact rt1 Tryz.f76 rfl rfl hR_ ⟨rfl, HS.b⟩
  refine WC.loop (fun k_ E_ W_ => ∃ (i8 : Int), E_ = [(0, .slice A0 l0.length c0), (1, .func (.func 57) #[] #[.pointer (some ⟨b1c0, 0, none⟩)]), (7, .int .i64 (l0.length : Int)), (8, .int .i64 i8)] ∧ (∃ o_, slices_IndexFunc_int_int_57.l0 l0 x1c0 k_ i8 = some o_ ∧ G4 o_ = some r) ∧ St (fun _ => True) w W_ [] [(fun W => (Kd.slice 3 (Kd.int .i64)).C W A0 l0.length l0), (fun W => k47.K W x1c0 cs1c0), (fun W => W.heap[b1c0]? = some (.cells cs1c0.toArray 47 (0, 0)))] []) k ⟨0, rfl, ⟨_, H, Ho7⟩, (St.pick HS (fun W_ h_ => ⟨AllF.get 0 rfl h_, AllF.get 1 rfl h_, AllF.get 2 rfl h_, trivial⟩) (fun W_ h_ => trivial))⟩ ⟨rfl, rfl, rfl, rfl, trivial⟩ ?_
  rintro k_ E_ w13 ⟨i8, rfl, ⟨o6, H, Ho7⟩, HS⟩
  rcases k_ with _ | k14
  · exact no_ H
  replace H : slices_IndexFunc_int_int_57.b0 l0 x1c0 (slices_IndexFunc_int_int_57.l0 l0 x1c0 k14) k14 i8 = some o6 := H
  unfold slices_IndexFunc_int_int_57.b0 at H
  refine sr_ fun _ hK15 => ?_
  refine b_ bin_lss ?_
  refine dn_ hK15 ?_
  refine WC.seq fun _ hK16 => ?_
  rcases eti_ H with ⟨c17, H⟩ | ⟨c17, H⟩
  · refine wn_ (dF c17) ?_
    refine WC.exit ?_
    cases H
    exact WQ.via2 (fun _ _ h_ => h_) X9 ⟨i8, rfl, Ho7, (St.pick HS (fun W_ h_ => ⟨AllF.get 0 rfl h_, AllF.get 1 rfl h_, AllF.get 2 rfl h_, trivial⟩) (fun W_ h_ => trivial))⟩ ⟨rfl, rfl, rfl, rfl, trivial⟩
  refine wy_ (dT c17) ?_
  refine WC.skip ?_
  refine via_ hK16 ?_
  refine WC.seq fun _ hK18 => ?_
  refine WC.block ?_
  refine sr_ fun _ hK19 => ?_
  refine mv_ ?_
  refine as_ ?_
  refine dn_ hK19 ?_
  refine sr_ fun _ hK20 => ?_
  refine mv_ ?_
  refine mv_ ?_
  refine mv_ ?_
  obtain ⟨⟨q21, q22⟩, H⟩ := if_some H
  obtain ⟨ad23, rfl⟩ := C_open (HS.getO 0 rfl) (by omega)
  refine v_ (ia_ Tryz.underlying26 1 q21 q22) ?_
  obtain ⟨A24, c25, le26, HS⟩ := HS.slO 0 rfl i8 q21 q22
  refine v_ (Run.load rfl rfl Tryz.underlying28 rfl (HS.getO 1 rfl)) ?_
  obtain ⟨t27, ha28, H⟩ := bind_some H
  refine cv_ (args := [.slice A24 ((l0.getD i8.toNat []).length) c25]) (cap := [.pointer (some ⟨b1c0, 0, none⟩)]) Tryz.func57 (impl_ModelOk_1.runs k14 A24 c25 (l0.getD i8.toNat []) b1c0 cs1c0 x1c0 t27 _ (HS.getO 0 rfl) le26 (HS.getO 3 rfl) (HS.getO 4 rfl) ha28) ?_
  rintro _ w29 ⟨rfl, hb⟩
  replace HS := HS.below hb
  refine ⟨_, rfl, ?_⟩
  clear hb
  refine dn_ hK20 ?_
  rcases ite_ H with ⟨c30, H⟩ | ⟨c30, H⟩
  · refine wy_ c30 ?_
    refine sr_ fun _ hK31 => ?_
    refine mv_ ?_
    refine as_ ?_
    refine dn_ hK31 ?_
    refine WC.ret ?_
    cases H
    rw [hG5] at Ho7
    replace H : some _ = some _ := Ho7
    cases H
    exact fin1 Tryz.f76 rfl rfl hR_ ⟨rfl, HS.b⟩
  refine wn_ (bF c30) ?_
  refine WC.skip ?_
  refine via_ hK18 ?_
  refine rg_ ?_
  refine b_ bin_add64 ?_
  refine mv_ ?_
  refine WL.done ?_
  exact WQ.round k14 (fun _ _ h_ => h_) (Nat.lt_succ_self _) ⟨(wrap64 (i8 + 1)), rfl, ⟨_, H, Ho7⟩, (St.pick HS (fun W_ h_ => ⟨AllF.get 2 rfl h_, AllF.get 3 rfl h_, AllF.get 4 rfl h_, trivial⟩) (fun W_ h_ => trivial))⟩ ⟨rfl, rfl, rfl, rfl, trivial⟩
def slices_ContainsFunc_int_int_57.g (k : Nat) (l0 : List (List Int)) (x1c0 : S47) : Option Bool := ((slices_IndexFunc_int_int_57.g k l0 x1c0).bind fun t3 => (some (decide (t3 ≥ 0))))
theorem slices_ContainsFunc_int_int_57.runs (k : Nat) (A0 : Option Addr) (c0 : Nat) (l0 : List (List Int)) (b1c0 : Nat) (cs1c0 : List Value) (x1c0 : S47) (r : Bool) (w : World) (hr0 : (Kd.slice 3 (Kd.int .i64)).C w A0 l0.length l0) (hc0 : l0.length ≤ c0) (hk1c0 : k47.K w x1c0 cs1c0) (hb1c0 : w.heap[b1c0]? = some (.cells cs1c0.toArray 47 (0, 0))) (H : slices_ContainsFunc_int_int_57.g k l0 x1c0 = some r) :
    Calls Tryz.prog 56 #[.slice A0 l0.length c0, .func (.func 57) #[] #[.pointer (some ⟨b1c0, 0, none⟩)]] w fun e w' => e = .returned (.bool r) ∧ Below w.heap.size w w' := by
  have el1c0 : cs1c0.length = 14 := k47.K_len hk1c0
  unfold slices_ContainsFunc_int_int_57.g at H
  have HS : St (fun _ => True) w w [] [(fun W => (Kd.slice 3 (Kd.int .i64)).C W A0 l0.length l0), (fun W => k47.K W x1c0 cs1c0), (fun W => W.heap[b1c0]? = some (.cells cs1c0.toArray 47 (0, 0)))] [] := St.start (foot_cons (foot_C (Kd.heap_slice _ (Kd.heap_int _)) hr0) (foot_cons (foot_K h47 hk1c0) (foot_cons (foot_rob hb1c0) foot_nil)))
  refine cw_ Tryz.func56 fun R_ hR_ => ?_
  refine sr_ fun _ hK1 => ?_
  refine as_ ?_
  refine dn_ hK1 ?_
  refine sr_ fun _ hK2 => ?_
  refine mv_ ?_
  refine mv_ ?_
  obtain ⟨t3, ha4, H⟩ := bind_some H
  refine cs_ HS Tryz.func76 (slices_IndexFunc_int_int_57.runs k A0 c0 l0 b1c0 cs1c0 x1c0 t3 _ (HS.getO 0 rfl) hc0 (HS.getO 1 rfl) (HS.getO 2 rfl) ha4) (fun w5 HS => ?_)
  refine b_ bin_geq ?_
  refine as_ ?_
  refine dn_ hK2 ?_
  cases H
  exact rt1 Tryz.f56 rfl rfl hR_ ⟨rfl, HS.b⟩
def impl_ModelOk_2.g (k : Nat) (x0 : S86) (x1 : S47) : Option Bool := ((impl_LayerOk.g k x0 x1.f0).bind fun t5 => (some (!t5)))
theorem impl_ModelOk_2.runs (k : Nat) (cs0 : List Value) (x0 : S86) (b1 : Nat) (cs1 : List Value) (x1 : S47) (r : Bool) (w : World) (hk0 : k86.K w x0 cs0) (hk1 : k47.K w x1 cs1) (hb1 : w.heap[b1]? = some (.cells cs1.toArray 47 (0, 0))) (H : impl_ModelOk_2.g k x0 x1 = some r) :
    Calls Tryz.prog 60 #[.agg cs0.toArray, .pointer (some ⟨b1, 0, none⟩)] w fun e w' => e = .returned (.bool r) ∧ Below w.heap.size w w' := by
  have el0 : cs0.length = 32 := k86.K_len hk0
  have el1 : cs1.length = 14 := k47.K_len hk1
  unfold impl_ModelOk_2.g at H
  have HS : St (fun _ => True) w w [] [(fun W => k86.K W x0 cs0), (fun W => k47.K W x1 cs1), (fun W => W.heap[b1]? = some (.cells cs1.toArray 47 (0, 0)))] [] := St.start (foot_cons (foot_K h86 hk0) (foot_cons (foot_K h47 hk1) (foot_cons (foot_rob hb1) foot_nil)))
  refine cw_ Tryz.func60 fun R_ hR_ => ?_
  refine sr_ fun _ hK1 => ?_
  refine bo_ HS (fun b2 w3 hb2 HS => ?_)
  refine as_ ?_
  refine dn_ hK1 ?_
  refine sr_ fun _ hK4 => ?_
  refine v_ (Run.loadS (cs := cs0) rfl rfl Tryz.underlying86 rfl (by rw [el0]; kernel_rfl) (box_part (HS.mu 0 rfl) part_all)) ?_
  refine v_ (fa_ Tryz.underlying47) ?_
  refine v_ (lb_ (HS.getO 2 rfl) Tryz.underlying3 (at47_0 (HS.aO 1 rfl)).int) ?_
  obtain ⟨t5, ha6, H⟩ := bind_some H
  refine cs_ HS Tryz.func61 (impl_LayerOk.runs k cs0 x0 x1.f0 t5 _ (HS.getO 0 rfl) ha6) (fun w7 HS => ?_)
  refine nt_ ?_
  refine as_ ?_
  refine dn_ hK4 ?_
  cases H
  exact rt1 Tryz.f60 rfl rfl hR_ ⟨rfl, HS.b⟩
def slices_IndexFunc_impl_Layer_impl_Layer_60.b0 (l0 : List S86) (x1c0 : S47) (rec_ : Int → Option (Int ⊕ Int)) (k14 : Nat) (i8 : Int) : Option (Int ⊕ Int) := (if i8 < (l0.length : Int) then (if 0 ≤ i8 ∧ i8 < (l0.length : Int) then ((impl_ModelOk_2.g k14 (l0.getD i8.toNat o86) x1c0).bind fun t26 => (if t26 = true then (some (Sum.inl i8)) else (rec_ (wrap64 (i8 + 1))))) else none) else (some (Sum.inr i8)))
def slices_IndexFunc_impl_Layer_impl_Layer_60.l0 (l0 : List S86) (x1c0 : S47) : Nat → Int → Option (Int ⊕ Int)
  | 0, _ => none
  | k + 1, i8 => slices_IndexFunc_impl_Layer_impl_Layer_60.b0 l0 x1c0 (slices_IndexFunc_impl_Layer_impl_Layer_60.l0 l0 x1c0 k) k i8
def slices_IndexFunc_impl_Layer_impl_Layer_60.g (k : Nat) (l0 : List S86) (x1c0 : S47) : Option Int := ((slices_IndexFunc_impl_Layer_impl_Layer_60.l0 l0 x1c0 k 0).bind (fun o12 => match o12 with | .inl r_ => some r_ | .inr i8 => (some (-1))))
theorem slices_IndexFunc_impl_Layer_impl_Layer_60.runs (k : Nat) (A0 : Option Addr) (c0 : Nat) (l0 : List S86) (b1c0 : Nat) (cs1c0 : List Value) (x1c0 : S47) (r : Int) (w : World) (hr0 : k86.C w A0 l0.length l0) (hc0 : l0.length ≤ c0) (hk1c0 : k47.K w x1c0 cs1c0) (hb1c0 : w.heap[b1c0]? = some (.cells cs1c0.toArray 47 (0, 0))) (H : slices_IndexFunc_impl_Layer_impl_Layer_60.g k l0 x1c0 = some r) :
    Calls Tryz.prog 79 #[.slice A0 l0.length c0, .func (.func 60) #[] #[.pointer (some ⟨b1c0, 0, none⟩)]] w fun e w' => e = .returned (.int .i64 r) ∧ Below w.heap.size w w' := by
  have el1c0 : cs1c0.length = 14 := k47.K_len hk1c0
  unfold slices_IndexFunc_impl_Layer_impl_Layer_60.g at H
  have HS : St (fun _ => True) w w [] [(fun W => k86.C W A0 l0.length l0), (fun W => k47.K W x1c0 cs1c0), (fun W => W.heap[b1c0]? = some (.cells cs1c0.toArray 47 (0, 0)))] [] := St.start (foot_cons (foot_C h86 hr0) (foot_cons (foot_K h47 hk1c0) (foot_cons (foot_rob hb1c0) foot_nil)))
  refine cw_ Tryz.func79 fun R_ hR_ => ?_
  refine sr_ fun _ hK1 => ?_
  refine as_ ?_
  refine dn_ hK1 ?_
  refine WC.seq fun K2 hK2 => ?_
  refine sr_ fun _ hK3 => ?_
  refine mv_ ?_
  refine ln_ Tryz.underlying43 ?_
  refine mv_ ?_
  refine dn_ hK3 ?_
  refine WC.block ?_
  obtain ⟨G4, hG5, o6, H, Ho7⟩ := open_G H
  have X9 : ∀ E_ W_, (∃ (i8 : Int), E_ = [(0, .slice A0 l0.length c0), (1, .func (.func 60) #[] #[.pointer (some ⟨b1c0, 0, none⟩)]), (7, .int .i64 (l0.length : Int)), (8, .int .i64 i8)] ∧ G4 (Sum.inr i8) = some r ∧ St (fun _ => True) w W_ [] [(fun W => k86.C W A0 l0.length l0), (fun W => k47.K W x1c0 cs1c0), (fun W => W.heap[b1c0]? = some (.cells cs1c0.toArray 47 (0, 0)))] []) → ∀ a, Fits a 19 E_ → K2 a W_ := by
    rintro E_ w10 ⟨i8, rfl, H, HS⟩
    rw [hG5] at H
    (try dsimp only at H)
    refine hK2 _ _ ?_
    refine sr_ fun _ hK11 => ?_
    refine as_ ?_
    refine dn_ hK11 ?_
    cases H
    exact rt1 Tryz.f79 rfl rfl hR_ ⟨rfl, HS.b⟩
  refine WC.loop (fun k_ E_ W_ => ∃ (i8 : Int), E_ = [(0, .slice A0 l0.length c0), (1, .func (.func 60) #[] #[.pointer (some ⟨b1c0, 0, none⟩)]), (7, .int .i64 (l0.length : Int)), (8, .int .i64 i8)] ∧ (∃ o_, slices_IndexFunc_impl_Layer_impl_Layer_60.l0 l0 x1c0 k_ i8 = some o_ ∧ G4 o_ = some r) ∧ St (fun _ => True) w W_ [] [(fun W => k86.C W A0 l0.length l0), (fun W => k47.K W x1c0 cs1c0), (fun W => W.heap[b1c0]? = some (.cells cs1c0.toArray 47 (0, 0)))] []) k ⟨0, rfl, ⟨_, H, Ho7⟩, (St.pick HS (fun W_ h_ => ⟨AllF.get 0 rfl h_, AllF.get 1 rfl h_, AllF.get 2 rfl h_, trivial⟩) (fun W_ h_ => trivial))⟩ ⟨rfl, rfl, rfl, rfl, trivial⟩ ?_
  rintro k_ E_ w13 ⟨i8, rfl, ⟨o6, H, Ho7⟩, HS⟩
  rcases k_ with _ | k14
  · exact no_ H
  replace H : slices_IndexFunc_impl_Layer_impl_Layer_60.b0 l0 x1c0 (slices_IndexFunc_impl_Layer_impl_Layer_60.l0 l0 x1c0 k14) k14 i8 = some o6 := H
  unfold slices_IndexFunc_impl_Layer_impl_Layer_60.b0 at H
  refine sr_ fun _ hK15 => ?_
  refine b_ bin_lss ?_
  refine dn_ hK15 ?_
  refine WC.seq fun _ hK16 => ?_
  rcases eti_ H with ⟨c17, H⟩ | ⟨c17, H⟩
  · refine wn_ (dF c17) ?_
    refine WC.exit ?_
    cases H
    exact WQ.via2 (fun _ _ h_ => h_) X9 ⟨i8, rfl, Ho7, (St.pick HS (fun W_ h_ => ⟨AllF.get 0 rfl h_, AllF.get 1 rfl h_, AllF.get 2 rfl h_, trivial⟩) (fun W_ h_ => trivial))⟩ ⟨rfl, rfl, rfl, rfl, trivial⟩
  refine wy_ (dT c17) ?_
  refine WC.skip ?_
  refine via_ hK16 ?_
  refine WC.seq fun _ hK18 => ?_
  refine WC.block ?_
  refine sr_ fun _ hK19 => ?_
  refine mv_ ?_
  refine as_ ?_
  refine dn_ hK19 ?_
  refine sr_ fun _ hK20 => ?_
  refine mv_ ?_
  refine mv_ ?_
  refine mv_ ?_
  obtain ⟨⟨q21, q22⟩, H⟩ := if_some H
  obtain ⟨ad23, rfl⟩ := C_open (HS.getO 0 rfl) (by omega)
  refine v_ (ia_ Tryz.underlying43 32 q21 q22) ?_
  obtain ⟨e24, el25, HS⟩ := HS.elO 0 rfl (by decide) o86 i8 q21 q22
  replace HS := HS.deriveO (p := (fun W => k86.K W (l0.getD i8.toNat o86) e24)) (fun W_ hO_ hN_ => (AllF.get 0 rfl hO_).1)
  refine v_ (Run.loadS (cs := e24) rfl rfl Tryz.underlying86 rfl (by rw [el25]; kernel_rfl) (HS.getO 1 rfl).2) ?_
  obtain ⟨t26, ha27, H⟩ := bind_some H
  refine cv_ (args := [.agg e24.toArray]) (cap := [.pointer (some ⟨b1c0, 0, none⟩)]) Tryz.func60 (impl_ModelOk_2.runs k14 e24 (l0.getD i8.toNat o86) b1c0 cs1c0 x1c0 t26 _ (HS.getO 0 rfl) (HS.getO 3 rfl) (HS.getO 4 rfl) ha27) ?_
  rintro _ w28 ⟨rfl, hb⟩
  replace HS := HS.below hb
  refine ⟨_, rfl, ?_⟩
  clear hb
  refine dn_ hK20 ?_
  rcases ite_ H with ⟨c29, H⟩ | ⟨c29, H⟩
  · refine wy_ c29 ?_
    refine sr_ fun _ hK30 => ?_
    refine mv_ ?_
    refine as_ ?_
    refine dn_ hK30 ?_
    refine WC.ret ?_
    cases H
    rw [hG5] at Ho7
    replace H : some _ = some _ := Ho7
    cases H
    exact fin1 Tryz.f79 rfl rfl hR_ ⟨rfl, HS.b⟩
  refine wn_ (bF c29) ?_
  refine WC.skip ?_
  refine via_ hK18 ?_
  refine rg_ ?_
  refine b_ bin_add64 ?_
  refine mv_ ?_
  refine WL.done ?_
  exact WQ.round k14 (fun _ _ h_ => h_) (Nat.lt_succ_self _) ⟨(wrap64 (i8 + 1)), rfl, ⟨_, H, Ho7⟩, (St.pick HS (fun W_ h_ => ⟨AllF.get 2 rfl h_, AllF.get 3 rfl h_, AllF.get 4 rfl h_, trivial⟩) (fun W_ h_ => trivial))⟩ ⟨rfl, rfl, rfl, rfl, trivial⟩
def slices_ContainsFunc_impl_Layer_impl_Layer_60.g (k : Nat) (l0 : List S86) (x1c0 : S47) : Option Bool := ((slices_IndexFunc_impl_Layer_impl_Layer_60.g k l0 x1c0).bind fun t3 => (some (decide (t3 ≥ 0))))
theorem slices_ContainsFunc_impl_Layer_impl_Layer_60.runs (k : Nat) (A0 : Option Addr) (c0 : Nat) (l0 : List S86) (b1c0 : Nat) (cs1c0 : List Value) (x1c0 : S47) (r : Bool) (w : World) (hr0 : k86.C w A0 l0.length l0) (hc0 : l0.length ≤ c0) (hk1c0 : k47.K w x1c0 cs1c0) (hb1c0 : w.heap[b1c0]? = some (.cells cs1c0.toArray 47 (0, 0))) (H : slices_ContainsFunc_impl_Layer_impl_Layer_60.g k l0 x1c0 = some r) :
    Calls Tryz.prog 59 #[.slice A0 l0.length c0, .func (.func 60) #[] #[.pointer (some ⟨b1c0, 0, none⟩)]] w fun e w' => e = .returned (.bool r) ∧ Below w.heap.size w w' := by
  have el1c0 : cs1c0.length = 14 := k47.K_len hk1c0
  unfold slices_ContainsFunc_impl_Layer_impl_Layer_60.g at H
  have HS : St (fun _ => True) w w [] [(fun W => k86.C W A0 l0.length l0), (fun W => k47.K W x1c0 cs1c0), (fun W => W.heap[b1c0]? = some (.cells cs1c0.toArray 47 (0, 0)))] [] := St.start (foot_cons (foot_C h86 hr0) (foot_cons (foot_K h47 hk1c0) (foot_cons (foot_rob hb1c0) foot_nil)))
  refine cw_ Tryz.func59 fun R_ hR_ => ?_
  refine sr_ fun _ hK1 => ?_
  refine as_ ?_
  refine dn_ hK1 ?_
  refine sr_ fun _ hK2 => ?_
  refine mv_ ?_
  refine mv_ ?_
  obtain ⟨t3, ha4, H⟩ := bind_some H
  refine cs_ HS Tryz.func79 (slices_IndexFunc_impl_Layer_impl_Layer_60.runs k A0 c0 l0 b1c0 cs1c0 x1c0 t3 _ (HS.getO 0 rfl) hc0 (HS.getO 1 rfl) (HS.getO 2 rfl) ha4) (fun w5 HS => ?_)
  refine b_ bin_geq ?_
  refine as_ ?_
  refine dn_ hK2 ?_
  cases H
  exact rt1 Tryz.f59 rfl rfl hR_ ⟨rfl, HS.b⟩
def impl_ModelOk.g (k : Nat) (x0 : S47) : Option Bool := ((impl_isWidth.f x0.f0).bind fun t7 => (if t7 = true then ((impl_in.f x0.f1 1 2).bind fun t11 => (if t11 = true then ((impl_MergesOk.g k x0.f3).bind fun t19 => (if t19 = true then ((impl_Vocab.g k x0).bind fun t27 => (if (x0.f4.length : Int) = t27 then ((impl_in.f (x0.f5.length : Int) 1 2).bind fun t35 => (if t35 = true then ((slices_ContainsFunc_int_int_57.g k x0.f4 x0).bind fun t41 => (if t41 = true then (some false) else ((slices_ContainsFunc_impl_Layer_impl_Layer_60.g k x0.f5 x0).bind fun t48 => (if t48 = true then (some false) else ((impl_GainOk.f x0.f6 x0.f0).bind fun t59 => (if t59 = true then ((impl_Vocab.g k x0).bind fun t71 => ((impl_withinBudget.f k x0.f7.f0 x0.f7.f1 x0.f7.f2 x0.f7.f3 x0.f7.f4 x0.f0 t71).bind fun t74 => (if t74 = true then (if x0.f1 ≠ 0 then ((impl_TurnsOk.f x0.f8.f0 x0.f8.f1 x0.f2 (wrap64 (Int.tdiv (wrap64 (Int.tdiv x0.f0 x0.f1)) 2))).bind fun t87 => (some t87)) else none) else (some false)))) else (some false))))))) else (some false))) else (some false))) else (some false))) else (some false))) else (some false)))
theorem impl_ModelOk.runs (k : Nat) (cs0 : List Value) (x0 : S47) (r : Bool) (w : World) (hk0 : k47.K w x0 cs0) (H : impl_ModelOk.g k x0 = some r) :
    Calls Tryz.prog 28 #[.agg cs0.toArray] w fun e w' => e = .returned (.bool r) ∧ Below w.heap.size w w' := by
  have el0 : cs0.length = 14 := k47.K_len hk0
  unfold impl_ModelOk.g at H
  have HS : St (fun _ => True) w w [] [(fun W => k47.K W x0 cs0)] [] := St.start (foot_cons (foot_K h47 hk0) foot_nil)
  refine cw_ Tryz.func28 fun R_ hR_ => ?_
  refine sr_ fun _ hK1 => ?_
  refine bo_ HS (fun b2 w3 hb2 HS => ?_)
  refine as_ ?_
  refine dn_ hK1 ?_
  refine WC.seq fun _ hK4 => ?_
  refine WC.seq fun _ hK5 => ?_
  refine WC.drawS HS [] rfl rfl (fun w6 HS => ?_)
  have HB := Below.refl w6.heap.size w6
  have HSW := HS
  refine df_ 0 Tryz.underlying47 ?_
  refine bl_ 1 HS (Below.refl _ _) 0 Tryz.underlying3 (at47_0 (HS.aO 0 rfl)).int ?_
  obtain ⟨t7, ha8, H⟩ := bind_some H
  refine dcs0_ HS HB 2 (w_none rfl) Tryz.func52 (impl_isWidth.calls x0.f0 t7 _ ha8) (fun w9 HS HB => ?_)
  refine dp_ 3 (fun _ => Run.not rfl rfl) ?_
  refine dm_ 4 ?_
  rcases eti_ H with ⟨c10, H⟩ | ⟨c10, H⟩
  · refine doT_ 5 (nB (bF c10)) ?_
    refine doT_ 6 (nB (bF c10)) ?_
    refine doT_ 7 (nB (bF c10)) ?_
    refine doT_ 8 (nB (bF c10)) ?_
    refine dp_ 9 (fun _ => Run.pickT rfl rfl (nB (bF c10)) rfl) ?_
    refine dm_ 10 ?_
    refine doT_ 11 rfl ?_
    refine doT_ 12 rfl ?_
    refine doT_ 13 rfl ?_
    refine doT_ 14 rfl ?_
    refine dp_ 15 (fun _ => Run.pickT rfl rfl rfl rfl) ?_
    refine dm_ 16 ?_
    refine doT_ 17 rfl ?_
    refine doT_ 18 rfl ?_
    refine doT_ 19 rfl ?_
    refine doT_ 20 rfl ?_
    refine doT_ 21 rfl ?_
    refine doT_ 22 rfl ?_
    refine dp_ 23 (fun _ => Run.pickT rfl rfl rfl rfl) ?_
    refine dm_ 24 ?_
    refine doT_ 25 rfl ?_
    refine doT_ 26 rfl ?_
    refine doT_ 27 rfl ?_
    refine doT_ 28 rfl ?_
    refine doT_ 29 rfl ?_
    refine dp_ 30 (fun _ => Run.pickT rfl rfl rfl rfl) ?_
    refine dd_ ?_
    clear HB HSW
    refine via_ hK5 ?_
    refine wy_ rfl ?_
    refine sr_ fun _ hK94 => ?_
    refine as_ ?_
    refine dn_ hK94 ?_
    cases H
    exact rt1 Tryz.f28 rfl rfl hR_ ⟨rfl, HS.b⟩
  refine dfg_ 5 (nB c10) Tryz.underlying47 ?_
  refine blg_ 6 (nB c10) HSW HB 0 Tryz.underlying3 (at47_1 (HSW.aO 0 rfl)).int ?_
  obtain ⟨t11, ha12, H⟩ := bind_some H
  refine dcs0_ HS HB 7 (w_on rfl rfl rfl (nB c10)) Tryz.func53 (impl_in.calls x0.f1 1 2 t11 _ ha12) (fun w13 HS HB => ?_)
  refine dg_ 8 (nB c10) (fun _ => Run.not rfl rfl) ?_
  refine dp_ 9 (fun _ => Run.pickF rfl rfl (nB c10) rfl) ?_
  refine dm_ 10 ?_
  rcases eti_ H with ⟨c14, H⟩ | ⟨c14, H⟩
  · refine doT_ 11 (nB (bF c14)) ?_
    refine doT_ 12 (nB (bF c14)) ?_
    refine doT_ 13 (nB (bF c14)) ?_
    refine doT_ 14 (nB (bF c14)) ?_
    refine dp_ 15 (fun _ => Run.pickT rfl rfl (nB (bF c14)) rfl) ?_
    refine dm_ 16 ?_
    refine doT_ 17 rfl ?_
    refine doT_ 18 rfl ?_
    refine doT_ 19 rfl ?_
    refine doT_ 20 rfl ?_
    refine doT_ 21 rfl ?_
    refine doT_ 22 rfl ?_
    refine dp_ 23 (fun _ => Run.pickT rfl rfl rfl rfl) ?_
    refine dm_ 24 ?_
    refine doT_ 25 rfl ?_
    refine doT_ 26 rfl ?_
    refine doT_ 27 rfl ?_
    refine doT_ 28 rfl ?_
    refine doT_ 29 rfl ?_
    refine dp_ 30 (fun _ => Run.pickT rfl rfl rfl rfl) ?_
    refine dd_ ?_
    clear HB HSW
    refine via_ hK5 ?_
    refine wy_ rfl ?_
    refine sr_ fun _ hK93 => ?_
    refine as_ ?_
    refine dn_ hK93 ?_
    cases H
    exact rt1 Tryz.f28 rfl rfl hR_ ⟨rfl, HS.b⟩
  refine dfg_ 11 (nB c14) Tryz.underlying47 ?_
  obtain ⟨A15, c16, hc17, le18, HS⟩ := HS.sO 0 rfl at47_3
  refine blg_ 12 (nB c14) HSW HB 0 Tryz.underlying42 hc17 ?_
  obtain ⟨t19, ha20, H⟩ := bind_some H
  refine dcs_ HS HB 13 (w_on rfl rfl rfl (nB c14)) Tryz.func54 (impl_MergesOk.runs k A15 c16 x0.f3 t19 _ (HS.getO 0 rfl) le18 ha20) (fun w21 HS HB => ?_)
  refine dg_ 14 (nB c14) (fun _ => Run.not rfl rfl) ?_
  refine dp_ 15 (fun _ => Run.pickF rfl rfl (nB c14) rfl) ?_
  refine dm_ 16 ?_
  rcases eti_ H with ⟨c22, H⟩ | ⟨c22, H⟩
  · refine doT_ 17 (nB (bF c22)) ?_
    refine doT_ 18 (nB (bF c22)) ?_
    refine doT_ 19 (nB (bF c22)) ?_
    refine doT_ 20 (nB (bF c22)) ?_
    refine doT_ 21 (nB (bF c22)) ?_
    refine doT_ 22 (nB (bF c22)) ?_
    refine dp_ 23 (fun _ => Run.pickT rfl rfl (nB (bF c22)) rfl) ?_
    refine dm_ 24 ?_
    refine doT_ 25 rfl ?_
    refine doT_ 26 rfl ?_
    refine doT_ 27 rfl ?_
    refine doT_ 28 rfl ?_
    refine doT_ 29 rfl ?_
    refine dp_ 30 (fun _ => Run.pickT rfl rfl rfl rfl) ?_
    refine dd_ ?_
    clear HB HSW
    refine via_ hK5 ?_
    refine wy_ rfl ?_
    refine sr_ fun _ hK92 => ?_
    refine as_ ?_
    refine dn_ hK92 ?_
    cases H
    exact rt1 Tryz.f28 rfl rfl hR_ ⟨rfl, HS.b⟩
  refine dfg_ 17 (nB c22) Tryz.underlying47 ?_
  obtain ⟨A23, c24, hc25, le26, HS⟩ := HS.sO 1 rfl at47_4
  refine blg_ 18 (nB c22) HSW HB 0 Tryz.underlying26 hc25 ?_
  refine dg_ 19 (nB c22) (fun _ => Run.len (ts := #[]) rfl Tryz.underlying26 rfl) ?_
  refine dh_ 20 (nB c22) HB (fun w_ hw_ => Run.loadS (cs := cs0) rfl rfl Tryz.underlying47 rfl (by rw [el0]; kernel_rfl) (box_part ((HSW.below hw_).mu 0 rfl) part_all)) ?_
  obtain ⟨t27, ha28, H⟩ := bind_some H
  refine dcs_ HS HB 21 (w_on rfl rfl rfl (nB c22)) Tryz.func55 (impl_Vocab.runs k cs0 x0 t27 _ (HS.getO 2 rfl) ha28) (fun w29 HS HB => ?_)
  refine dg_ 22 (nB c22) (fun _ => Run.bin rfl rfl rfl bin_neq) ?_
  refine dp_ 23 (fun _ => Run.pickF rfl rfl (nB c22) rfl) ?_
  refine dm_ 24 ?_
  rcases eti_ H with ⟨c30, H⟩ | ⟨c30, H⟩
  · refine doT_ 25 (qT c30) ?_
    refine doT_ 26 (qT c30) ?_
    refine doT_ 27 (qT c30) ?_
    refine doT_ 28 (qT c30) ?_
    refine doT_ 29 (qT c30) ?_
    refine dp_ 30 (fun _ => Run.pickT rfl rfl (qT c30) rfl) ?_
    refine dd_ ?_
    clear HB HSW
    refine via_ hK5 ?_
    refine wy_ rfl ?_
    refine sr_ fun _ hK91 => ?_
    refine as_ ?_
    refine dn_ hK91 ?_
    cases H
    exact rt1 Tryz.f28 rfl rfl hR_ ⟨rfl, HS.b⟩
  refine dfg_ 25 (qF c30) Tryz.underlying47 ?_
  obtain ⟨A31, c32, hc33, le34, HS⟩ := HS.sO 2 rfl at47_5
  refine blg_ 26 (qF c30) HSW HB 0 Tryz.underlying43 hc33 ?_
  refine dg_ 27 (qF c30) (fun _ => Run.len (ts := #[]) rfl Tryz.underlying43 rfl) ?_
  obtain ⟨t35, ha36, H⟩ := bind_some H
  refine dcs0_ HS HB 28 (w_on rfl rfl rfl (qF c30)) Tryz.func53 (impl_in.calls (x0.f5.length : Int) 1 2 t35 _ ha36) (fun w37 HS HB => ?_)
  refine dg_ 29 (qF c30) (fun _ => Run.not rfl rfl) ?_
  refine dp_ 30 (fun _ => Run.pickF rfl rfl (qF c30) rfl) ?_
  refine dd_ ?_
  clear HB HSW
  refine via_ hK5 ?_
  rcases eti_ H with ⟨c38, H⟩ | ⟨c38, H⟩
  · refine wy_ (nB (bF c38)) ?_
    refine sr_ fun _ hK90 => ?_
    refine as_ ?_
    refine dn_ hK90 ?_
    cases H
    exact rt1 Tryz.f28 rfl rfl hR_ ⟨rfl, HS.b⟩
  refine wn_ (nB c38) ?_
  refine WC.skip ?_
  refine via_ hK4 ?_
  refine WC.seq fun _ hK39 => ?_
  refine sr_ fun _ hK40 => ?_
  refine v_ (fa_ Tryz.underlying47) ?_
  refine v_ (lb_ (HS.mu 0 rfl) Tryz.underlying26 hc25) ?_
  refine v_ (Run.makeFunc (cap := [.pointer (some ⟨b2, 0, none⟩)]) rfl rfl) ?_
  obtain ⟨t41, ha42, H⟩ := bind_some H
  refine cs_ HS Tryz.func56 (slices_ContainsFunc_int_int_57.runs k A23 c24 x0.f4 b2 cs0 x0 t41 _ (HS.getO 1 rfl) le26 (HS.getO 3 rfl) (HS.mu 0 rfl) ha42) (fun w43 HS => ?_)
  refine dn_ hK40 ?_
  rcases ite_ H with ⟨c44, H⟩ | ⟨c44, H⟩
  · refine wy_ c44 ?_
    refine sr_ fun _ hK45 => ?_
    refine as_ ?_
    refine dn_ hK45 ?_
    cases H
    exact rt1 Tryz.f28 rfl rfl hR_ ⟨rfl, HS.b⟩
  refine wn_ (bF c44) ?_
  refine WC.skip ?_
  refine via_ hK39 ?_
  refine WC.seq fun _ hK46 => ?_
  refine sr_ fun _ hK47 => ?_
  refine v_ (fa_ Tryz.underlying47) ?_
  refine v_ (lb_ (HS.mu 0 rfl) Tryz.underlying43 hc33) ?_
  refine v_ (Run.makeFunc (cap := [.pointer (some ⟨b2, 0, none⟩)]) rfl rfl) ?_
  obtain ⟨t48, ha49, H⟩ := bind_some H
  refine cs_ HS Tryz.func59 (slices_ContainsFunc_impl_Layer_impl_Layer_60.runs k A31 c32 x0.f5 b2 cs0 x0 t48 _ (HS.getO 0 rfl) le34 (HS.getO 3 rfl) (HS.mu 0 rfl) ha49) (fun w50 HS => ?_)
  refine dn_ hK47 ?_
  rcases ite_ H with ⟨c51, H⟩ | ⟨c51, H⟩
  · refine wy_ c51 ?_
    refine sr_ fun _ hK52 => ?_
    refine as_ ?_
    refine dn_ hK52 ?_
    cases H
    exact rt1 Tryz.f28 rfl rfl hR_ ⟨rfl, HS.b⟩
  refine wn_ (bF c51) ?_
  refine WC.skip ?_
  refine via_ hK46 ?_
  refine WC.seq fun _ hK53 => ?_
  refine WC.drawS HS [] rfl rfl (fun w54 HS => ?_)
  have HB := Below.refl w54.heap.size w54
  have HSW := HS
  refine df_ 0 Tryz.underlying47 ?_
  refine df_ 2 Tryz.underlying47 ?_
  obtain ⟨A55, c56, hc57, le58, HS⟩ := HS.sO 3 rfl at47_6
  refine bl_ 1 HS (Below.refl _ _) 0 Tryz.underlying28 hc57 ?_
  refine bl_ 3 HS (Below.refl _ _) 0 Tryz.underlying3 (at47_0 (HS.aO 4 rfl)).int ?_
  obtain ⟨t59, ha60, H⟩ := bind_some H
  refine dcs_ HS HB 4 (w_none rfl) Tryz.func62 (impl_GainOk.calls A55 c56 x0.f6 x0.f0 t59 _ (HS.getO 0 rfl) le58 ha60) (fun w61 HS HB => ?_)
  refine dm_ 5 ?_
  rcases eti_ H with ⟨c62, H⟩ | ⟨c62, H⟩
  · refine doF_ 6 (bF c62) ?_
    refine doF_ 7 (bF c62) ?_
    refine doF_ 8 (bF c62) ?_
    refine doF_ 9 (bF c62) ?_
    refine doF_ 10 (bF c62) ?_
    refine doF_ 11 (bF c62) ?_
    refine doF_ 12 (bF c62) ?_
    refine dp_ 13 (fun _ => Run.pickF rfl rfl (bF c62) rfl) ?_
    refine dm_ 14 ?_
    refine doF_ 15 rfl ?_
    refine doF_ 16 rfl ?_
    refine doF_ 17 rfl ?_
    refine doF_ 18 rfl ?_
    refine doF_ 19 rfl ?_
    refine doF_ 20 rfl ?_
    refine doF_ 21 rfl ?_
    refine doF_ 22 rfl ?_
    refine doF_ 23 rfl ?_
    refine doF_ 24 rfl ?_
    refine doF_ 25 rfl ?_
    refine dp_ 26 (fun _ => Run.pickF rfl rfl rfl rfl) ?_
    refine dp_ 27 (fun _ => Run.assign rfl rfl) ?_
    refine dd_ ?_
    clear HB HSW
    refine via_ hK53 ?_
    cases H
    exact rt1 Tryz.f28 rfl rfl hR_ ⟨rfl, HS.b⟩
  refine dfg_ 6 c62 Tryz.underlying47 ?_
  refine dfg_ 8 c62 Tryz.underlying47 ?_
  obtain ⟨A63, c64, hc65, le66, HS⟩ := HS.sO 4 rfl at47_8
  obtain ⟨A67, c68, hc69, le70, HS⟩ := HS.sO 5 rfl at47_9
  refine dh_ 7 c62 HB (fun w_ hw_ => Run.loadS (cs := [.int .i64 x0.f7.f0, .slice A63 x0.f7.f1.length c64, .slice A67 x0.f7.f2.length c68, .int .i64 x0.f7.f3, .int .i64 x0.f7.f4]) rfl rfl Tryz.underlying44 rfl (by kernel_rfl) (box_part ((HSW.below hw_).mu 0 rfl) (part_cons (at47_7 ((HSW.below hw_).aO 3 rfl)).int (part_cons hc65 (part_cons hc69 (part_cons (at47_10 ((HSW.below hw_).aO 3 rfl)).int (part_cons (at47_11 ((HSW.below hw_).aO 3 rfl)).int part_nil))))))) ?_
  refine blg_ 9 c62 HSW HB 0 Tryz.underlying3 (at47_0 (HSW.aO 3 rfl)).int ?_
  refine dh_ 10 c62 HB (fun w_ hw_ => Run.loadS (cs := cs0) rfl rfl Tryz.underlying47 rfl (by rw [el0]; kernel_rfl) (box_part ((HSW.below hw_).mu 0 rfl) part_all)) ?_
  obtain ⟨t71, ha72, H⟩ := bind_some H
  refine dcs_ HS HB 11 (w_on rfl rfl rfl c62) Tryz.func55 (impl_Vocab.runs k cs0 x0 t71 _ (HS.getO 6 rfl) ha72) (fun w73 HS HB => ?_)
  obtain ⟨t74, ha75, H⟩ := bind_some H
  refine dcs_ HS HB 12 (w_on rfl rfl rfl c62) Tryz.func63 (impl_withinBudget.calls k x0.f7.f0 A63 c64 x0.f7.f1 A67 c68 x0.f7.f2 x0.f7.f3 x0.f7.f4 x0.f0 t71 t74 _ (HS.getO 1 rfl) le66 (HS.getO 0 rfl) le70 ha75) (fun w76 HS HB => ?_)
  refine dp_ 13 (fun _ => Run.pickT rfl rfl c62 rfl) ?_
  refine dm_ 14 ?_
  rcases eti_ H with ⟨c77, H⟩ | ⟨c77, H⟩
  · refine doF_ 15 (bF c77) ?_
    refine doF_ 16 (bF c77) ?_
    refine doF_ 17 (bF c77) ?_
    refine doF_ 18 (bF c77) ?_
    refine doF_ 19 (bF c77) ?_
    refine doF_ 20 (bF c77) ?_
    refine doF_ 21 (bF c77) ?_
    refine doF_ 22 (bF c77) ?_
    refine doF_ 23 (bF c77) ?_
    refine doF_ 24 (bF c77) ?_
    refine doF_ 25 (bF c77) ?_
    refine dp_ 26 (fun _ => Run.pickF rfl rfl (bF c77) rfl) ?_
    refine dp_ 27 (fun _ => Run.assign rfl rfl) ?_
    refine dd_ ?_
    clear HB HSW
    refine via_ hK53 ?_
    cases H
    exact rt1 Tryz.f28 rfl rfl hR_ ⟨rfl, HS.b⟩
  refine dfg_ 15 c77 Tryz.underlying47 ?_
  refine dfg_ 17 c77 Tryz.underlying47 ?_
  refine dfg_ 19 c77 Tryz.underlying47 ?_
  refine dfg_ 21 c77 Tryz.underlying47 ?_
  obtain ⟨A78, c79, hc80, le81, HS⟩ := HS.sO 6 rfl at47_12
  obtain ⟨A82, c83, hc84, le85, HS⟩ := HS.sO 7 rfl at47_13
  refine dh_ 16 c77 HB (fun w_ hw_ => Run.loadS (cs := [.slice A78 x0.f8.f0.length c79, .slice A82 x0.f8.f1.length c83]) rfl rfl Tryz.underlying45 rfl (by kernel_rfl) (box_part ((HSW.below hw_).mu 0 rfl) (part_cons hc80 (part_cons hc84 part_nil)))) ?_
  refine blg_ 18 c77 HSW HB 0 Tryz.underlying3 (at47_2 (HSW.aO 3 rfl)).int ?_
  refine blg_ 20 c77 HSW HB 0 Tryz.underlying3 (at47_0 (HSW.aO 3 rfl)).int ?_
  refine blg_ 22 c77 HSW HB 0 Tryz.underlying3 (at47_1 (HSW.aO 3 rfl)).int ?_
  obtain ⟨z86, H⟩ := if_some H
  refine dg_ 23 c77 (fun _ => Run.bin rfl rfl rfl (bin_quo64 z86)) ?_
  refine dg_ 24 c77 (fun _ => Run.bin rfl rfl rfl (bin_quo64 (show (2 : Int) ≠ 0 by decide))) ?_
  obtain ⟨t87, ha88, H⟩ := bind_some H
  refine dcs_ HS HB 25 (w_on rfl rfl rfl c77) Tryz.func64 (impl_TurnsOk.calls A78 c79 x0.f8.f0 A82 c83 x0.f8.f1 x0.f2 (wrap64 (Int.tdiv (wrap64 (Int.tdiv x0.f0 x0.f1)) 2)) t87 _ (HS.getO 1 rfl) le81 (HS.getO 0 rfl) le85 ha88) (fun w89 HS HB => ?_)
  refine dp_ 26 (fun _ => Run.pickT rfl rfl c77 rfl) ?_
  refine dp_ 27 (fun _ => Run.assign rfl rfl) ?_
  refine dd_ ?_
  clear HB HSW
  refine via_ hK53 ?_
  cases H
  exact rt1 Tryz.f28 rfl rfl hR_ ⟨rfl, HS.b⟩
def laws_szLayer.g (k : Nat) (x0 : S78) (a1 : Int) : Option Int := ((laws_szIntS.f x0.f0 a1).bind fun t9 => (if t9 < 0 then (some (-1)) else ((laws_szMatrix.g k x0.f1 t9).bind fun t25 => (if t25 < 0 then (some (-1)) else ((laws_szMatrix.g k x0.f2 t25).bind fun t41 => (if t41 < 0 then (some (-1)) else ((laws_szMatrix.g k x0.f3 t41).bind fun t57 => (if t57 < 0 then (some (-1)) else ((laws_szMatrix.g k x0.f4 t57).bind fun t73 => (if t73 < 0 then (some (-1)) else ((laws_szIntS.f x0.f5 t73).bind fun t85 => (if t85 < 0 then (some (-1)) else ((laws_szMatrix.g k x0.f6 t85).bind fun t101 => (if t101 < 0 then (some (-1)) else ((laws_szMatrix.g k x0.f7 t101).bind fun t117 => (if t117 < 0 then (some (-1)) else (some t117)))))))))))))))))
theorem laws_szLayer.runs (k : Nat) (cs0 : List Value) (x0 : S78) (a1 : Int) (r : Int) (w : World) (hk0 : k78.K w x0 cs0) (H : laws_szLayer.g k x0 a1 = some r) :
    Calls Tryz.prog 38 #[.agg cs0.toArray, .int .i64 a1] w fun e w' => e = .returned (.int .i64 r) ∧ Below w.heap.size w w' := by
  have el0 : cs0.length = 32 := k78.K_len hk0
  unfold laws_szLayer.g at H
  have HS : St (fun _ => True) w w [] [(fun W => k78.K W x0 cs0)] [] := St.start (foot_cons (foot_K h78 hk0) foot_nil)
  refine cw_ Tryz.func38 fun R_ hR_ => ?_
  refine sr_ fun _ hK1 => ?_
  refine bo_ HS (fun b2 w3 hb2 HS => ?_)
  refine as_ ?_
  refine dn_ hK1 ?_
  refine sr_ fun _ hK4 => ?_
  refine v_ (fa_ Tryz.underlying78) ?_
  obtain ⟨A5, c6, hc7, le8, HS⟩ := HS.sO 0 rfl at78_0
  refine v_ (lb_ (HS.mu 0 rfl) Tryz.underlying28 hc7) ?_
  refine mv_ ?_
  obtain ⟨t9, ha10, H⟩ := bind_some H
  refine cs0_ HS Tryz.func16 (laws_szIntS.calls A5 c6 x0.f0 a1 t9 _ (HS.getO 0 rfl) le8 ha10) (fun w11 HS => ?_)
  refine as_ ?_
  refine dn_ hK4 ?_
  refine WC.seq fun _ hK12 => ?_
  refine sr_ fun _ hK13 => ?_
  refine mv_ ?_
  refine b_ bin_lss ?_
  refine dn_ hK13 ?_
  rcases ite_ H with ⟨c14, H⟩ | ⟨c14, H⟩
  · refine wy_ (dT c14) ?_
    refine sr_ fun _ hK15 => ?_
    refine as_ ?_
    refine dn_ hK15 ?_
    cases H
    exact rt1 Tryz.f38 rfl rfl hR_ ⟨rfl, HS.b⟩
  refine wn_ (dF c14) ?_
  refine WC.skip ?_
  refine via_ hK12 ?_
  refine sr_ fun _ hK16 => ?_
  refine v_ (fa_ Tryz.underlying78) ?_
  obtain ⟨A17, c18, hc19, le20, HS⟩ := HS.sO 1 rfl at78_2
  obtain ⟨A21, c22, hc23, le24, HS⟩ := HS.sO 2 rfl at78_3
  refine v_ (ls_ (HS.mu 0 rfl) Tryz.underlying30 (part_cons (at78_1 (HS.aO 3 rfl)).int (part_cons hc19 (part_cons hc23 (part_cons (at78_4 (HS.aO 3 rfl)).int (part_cons (at78_5 (HS.aO 3 rfl)).int part_nil)))))) ?_
  refine mv_ ?_
  obtain ⟨t25, ha26, H⟩ := bind_some H
  refine cs_ HS Tryz.func17 (laws_szMatrix.runs k x0.f1 A17 c18 A21 c22 t9 t25 _ (HS.getO 1 rfl) le20 (HS.getO 0 rfl) le24 ha26) (fun w27 HS => ?_)
  refine as_ ?_
  refine dn_ hK16 ?_
  refine WC.seq fun _ hK28 => ?_
  refine sr_ fun _ hK29 => ?_
  refine mv_ ?_
  refine b_ bin_lss ?_
  refine dn_ hK29 ?_
  rcases ite_ H with ⟨c30, H⟩ | ⟨c30, H⟩
  · refine wy_ (dT c30) ?_
    refine sr_ fun _ hK31 => ?_
    refine as_ ?_
    refine dn_ hK31 ?_
    cases H
    exact rt1 Tryz.f38 rfl rfl hR_ ⟨rfl, HS.b⟩
  refine wn_ (dF c30) ?_
  refine WC.skip ?_
  refine via_ hK28 ?_
  refine sr_ fun _ hK32 => ?_
  refine v_ (fa_ Tryz.underlying78) ?_
  obtain ⟨A33, c34, hc35, le36, HS⟩ := HS.sO 3 rfl at78_7
  obtain ⟨A37, c38, hc39, le40, HS⟩ := HS.sO 4 rfl at78_8
  refine v_ (ls_ (HS.mu 0 rfl) Tryz.underlying30 (part_cons (at78_6 (HS.aO 5 rfl)).int (part_cons hc35 (part_cons hc39 (part_cons (at78_9 (HS.aO 5 rfl)).int (part_cons (at78_10 (HS.aO 5 rfl)).int part_nil)))))) ?_
  refine mv_ ?_
  obtain ⟨t41, ha42, H⟩ := bind_some H
  refine cs_ HS Tryz.func17 (laws_szMatrix.runs k x0.f2 A33 c34 A37 c38 t25 t41 _ (HS.getO 1 rfl) le36 (HS.getO 0 rfl) le40 ha42) (fun w43 HS => ?_)
  refine as_ ?_
  refine dn_ hK32 ?_
  refine WC.seq fun _ hK44 => ?_
  refine sr_ fun _ hK45 => ?_
  refine mv_ ?_
  refine b_ bin_lss ?_
  refine dn_ hK45 ?_
  rcases ite_ H with ⟨c46, H⟩ | ⟨c46, H⟩
  · refine wy_ (dT c46) ?_
    refine sr_ fun _ hK47 => ?_
    refine as_ ?_
    refine dn_ hK47 ?_
    cases H
    exact rt1 Tryz.f38 rfl rfl hR_ ⟨rfl, HS.b⟩
  refine wn_ (dF c46) ?_
  refine WC.skip ?_
  refine via_ hK44 ?_
  refine sr_ fun _ hK48 => ?_
  refine v_ (fa_ Tryz.underlying78) ?_
  obtain ⟨A49, c50, hc51, le52, HS⟩ := HS.sO 5 rfl at78_12
  obtain ⟨A53, c54, hc55, le56, HS⟩ := HS.sO 6 rfl at78_13
  refine v_ (ls_ (HS.mu 0 rfl) Tryz.underlying30 (part_cons (at78_11 (HS.aO 7 rfl)).int (part_cons hc51 (part_cons hc55 (part_cons (at78_14 (HS.aO 7 rfl)).int (part_cons (at78_15 (HS.aO 7 rfl)).int part_nil)))))) ?_
  refine mv_ ?_
  obtain ⟨t57, ha58, H⟩ := bind_some H
  refine cs_ HS Tryz.func17 (laws_szMatrix.runs k x0.f3 A49 c50 A53 c54 t41 t57 _ (HS.getO 1 rfl) le52 (HS.getO 0 rfl) le56 ha58) (fun w59 HS => ?_)
  refine as_ ?_
  refine dn_ hK48 ?_
  refine WC.seq fun _ hK60 => ?_
  refine sr_ fun _ hK61 => ?_
  refine mv_ ?_
  refine b_ bin_lss ?_
  refine dn_ hK61 ?_
  rcases ite_ H with ⟨c62, H⟩ | ⟨c62, H⟩
  · refine wy_ (dT c62) ?_
    refine sr_ fun _ hK63 => ?_
    refine as_ ?_
    refine dn_ hK63 ?_
    cases H
    exact rt1 Tryz.f38 rfl rfl hR_ ⟨rfl, HS.b⟩
  refine wn_ (dF c62) ?_
  refine WC.skip ?_
  refine via_ hK60 ?_
  refine sr_ fun _ hK64 => ?_
  refine v_ (fa_ Tryz.underlying78) ?_
  obtain ⟨A65, c66, hc67, le68, HS⟩ := HS.sO 7 rfl at78_17
  obtain ⟨A69, c70, hc71, le72, HS⟩ := HS.sO 8 rfl at78_18
  refine v_ (ls_ (HS.mu 0 rfl) Tryz.underlying30 (part_cons (at78_16 (HS.aO 9 rfl)).int (part_cons hc67 (part_cons hc71 (part_cons (at78_19 (HS.aO 9 rfl)).int (part_cons (at78_20 (HS.aO 9 rfl)).int part_nil)))))) ?_
  refine mv_ ?_
  obtain ⟨t73, ha74, H⟩ := bind_some H
  refine cs_ HS Tryz.func17 (laws_szMatrix.runs k x0.f4 A65 c66 A69 c70 t57 t73 _ (HS.getO 1 rfl) le68 (HS.getO 0 rfl) le72 ha74) (fun w75 HS => ?_)
  refine as_ ?_
  refine dn_ hK64 ?_
  refine WC.seq fun _ hK76 => ?_
  refine sr_ fun _ hK77 => ?_
  refine mv_ ?_
  refine b_ bin_lss ?_
  refine dn_ hK77 ?_
  rcases ite_ H with ⟨c78, H⟩ | ⟨c78, H⟩
  · refine wy_ (dT c78) ?_
    refine sr_ fun _ hK79 => ?_
    refine as_ ?_
    refine dn_ hK79 ?_
    cases H
    exact rt1 Tryz.f38 rfl rfl hR_ ⟨rfl, HS.b⟩
  refine wn_ (dF c78) ?_
  refine WC.skip ?_
  refine via_ hK76 ?_
  refine sr_ fun _ hK80 => ?_
  refine v_ (fa_ Tryz.underlying78) ?_
  obtain ⟨A81, c82, hc83, le84, HS⟩ := HS.sO 9 rfl at78_21
  refine v_ (lb_ (HS.mu 0 rfl) Tryz.underlying28 hc83) ?_
  refine mv_ ?_
  obtain ⟨t85, ha86, H⟩ := bind_some H
  refine cs0_ HS Tryz.func16 (laws_szIntS.calls A81 c82 x0.f5 t73 t85 _ (HS.getO 0 rfl) le84 ha86) (fun w87 HS => ?_)
  refine as_ ?_
  refine dn_ hK80 ?_
  refine WC.seq fun _ hK88 => ?_
  refine sr_ fun _ hK89 => ?_
  refine mv_ ?_
  refine b_ bin_lss ?_
  refine dn_ hK89 ?_
  rcases ite_ H with ⟨c90, H⟩ | ⟨c90, H⟩
  · refine wy_ (dT c90) ?_
    refine sr_ fun _ hK91 => ?_
    refine as_ ?_
    refine dn_ hK91 ?_
    cases H
    exact rt1 Tryz.f38 rfl rfl hR_ ⟨rfl, HS.b⟩
  refine wn_ (dF c90) ?_
  refine WC.skip ?_
  refine via_ hK88 ?_
  refine sr_ fun _ hK92 => ?_
  refine v_ (fa_ Tryz.underlying78) ?_
  obtain ⟨A93, c94, hc95, le96, HS⟩ := HS.sO 10 rfl at78_23
  obtain ⟨A97, c98, hc99, le100, HS⟩ := HS.sO 11 rfl at78_24
  refine v_ (ls_ (HS.mu 0 rfl) Tryz.underlying30 (part_cons (at78_22 (HS.aO 12 rfl)).int (part_cons hc95 (part_cons hc99 (part_cons (at78_25 (HS.aO 12 rfl)).int (part_cons (at78_26 (HS.aO 12 rfl)).int part_nil)))))) ?_
  refine mv_ ?_
  obtain ⟨t101, ha102, H⟩ := bind_some H
  refine cs_ HS Tryz.func17 (laws_szMatrix.runs k x0.f6 A93 c94 A97 c98 t85 t101 _ (HS.getO 1 rfl) le96 (HS.getO 0 rfl) le100 ha102) (fun w103 HS => ?_)
  refine as_ ?_
  refine dn_ hK92 ?_
  refine WC.seq fun _ hK104 => ?_
  refine sr_ fun _ hK105 => ?_
  refine mv_ ?_
  refine b_ bin_lss ?_
  refine dn_ hK105 ?_
  rcases ite_ H with ⟨c106, H⟩ | ⟨c106, H⟩
  · refine wy_ (dT c106) ?_
    refine sr_ fun _ hK107 => ?_
    refine as_ ?_
    refine dn_ hK107 ?_
    cases H
    exact rt1 Tryz.f38 rfl rfl hR_ ⟨rfl, HS.b⟩
  refine wn_ (dF c106) ?_
  refine WC.skip ?_
  refine via_ hK104 ?_
  refine sr_ fun _ hK108 => ?_
  refine v_ (fa_ Tryz.underlying78) ?_
  obtain ⟨A109, c110, hc111, le112, HS⟩ := HS.sO 12 rfl at78_28
  obtain ⟨A113, c114, hc115, le116, HS⟩ := HS.sO 13 rfl at78_29
  refine v_ (ls_ (HS.mu 0 rfl) Tryz.underlying30 (part_cons (at78_27 (HS.aO 14 rfl)).int (part_cons hc111 (part_cons hc115 (part_cons (at78_30 (HS.aO 14 rfl)).int (part_cons (at78_31 (HS.aO 14 rfl)).int part_nil)))))) ?_
  refine mv_ ?_
  obtain ⟨t117, ha118, H⟩ := bind_some H
  refine cs_ HS Tryz.func17 (laws_szMatrix.runs k x0.f7 A109 c110 A113 c114 t101 t117 _ (HS.getO 1 rfl) le112 (HS.getO 0 rfl) le116 ha118) (fun w119 HS => ?_)
  refine as_ ?_
  refine dn_ hK108 ?_
  refine WC.seq fun _ hK120 => ?_
  refine sr_ fun _ hK121 => ?_
  refine mv_ ?_
  refine b_ bin_lss ?_
  refine dn_ hK121 ?_
  rcases ite_ H with ⟨c122, H⟩ | ⟨c122, H⟩
  · refine wy_ (dT c122) ?_
    refine sr_ fun _ hK123 => ?_
    refine as_ ?_
    refine dn_ hK123 ?_
    cases H
    exact rt1 Tryz.f38 rfl rfl hR_ ⟨rfl, HS.b⟩
  refine wn_ (dF c122) ?_
  refine WC.skip ?_
  refine via_ hK120 ?_
  refine sr_ fun _ hK124 => ?_
  refine mv_ ?_
  refine as_ ?_
  refine dn_ hK124 ?_
  cases H
  exact rt1 Tryz.f38 rfl rfl hR_ ⟨rfl, HS.b⟩
def laws_szLayerS.b0 (l0 : List S78) (rec_ : Int → Int → Option (Int ⊕ (Int × Int))) (k20 : Nat) (i13 : Int) (i14 : Int) : Option (Int ⊕ (Int × Int)) := (if i14 < (l0.length : Int) then (if 0 ≤ i14 ∧ i14 < (l0.length : Int) then ((laws_szLayer.g k20 (l0.getD i14.toNat o78) i13).bind fun t31 => (if t31 < 0 then (some (Sum.inl (-1))) else (rec_ t31 (wrap64 (i14 + 1))))) else none) else (some (Sum.inr (i13, i14))))
def laws_szLayerS.l0 (l0 : List S78) : Nat → Int → Int → Option (Int ⊕ (Int × Int))
  | 0, _, _ => none
  | k + 1, i13, i14 => laws_szLayerS.b0 l0 (laws_szLayerS.l0 l0 k) k i13 i14
def laws_szLayerS.g (k : Nat) (l0 : List S78) (a1 : Int) : Option Int := (if (wrap64 (a1 - (l0.length : Int))) < 0 then (some (-1)) else ((laws_szLayerS.l0 l0 k (wrap64 (a1 - (l0.length : Int))) 0).bind (fun o18 => match o18 with | .inl r_ => some r_ | .inr ⟨i13, i14⟩ => (some i13))))
theorem laws_szLayerS.runs (k : Nat) (A0 : Option Addr) (c0 : Nat) (l0 : List S78) (a1 : Int) (r : Int) (w : World) (hr0 : k78.C w A0 l0.length l0) (hc0 : l0.length ≤ c0) (H : laws_szLayerS.g k l0 a1 = some r) :
    Calls Tryz.prog 15 #[.slice A0 l0.length c0, .int .i64 a1] w fun e w' => e = .returned (.int .i64 r) ∧ Below w.heap.size w w' := by
  unfold laws_szLayerS.g at H
  have HS : St (fun _ => True) w w [] [(fun W => k78.C W A0 l0.length l0)] [] := St.start (foot_cons (foot_C h78 hr0) foot_nil)
  refine cw_ Tryz.func15 fun R_ hR_ => ?_
  refine sr_ fun _ hK1 => ?_
  refine as_ ?_
  refine dn_ hK1 ?_
  refine sr_ fun _ hK2 => ?_
  refine mv_ ?_
  refine mv_ ?_
  refine ln_ Tryz.underlying27 ?_
  refine b_ bin_sub64 ?_
  refine as_ ?_
  refine dn_ hK2 ?_
  refine WC.seq fun _ hK3 => ?_
  refine sr_ fun _ hK4 => ?_
  refine mv_ ?_
  refine b_ bin_lss ?_
  refine dn_ hK4 ?_
  rcases ite_ H with ⟨c5, H⟩ | ⟨c5, H⟩
  · refine wy_ (dT c5) ?_
    refine sr_ fun _ hK6 => ?_
    refine as_ ?_
    refine dn_ hK6 ?_
    cases H
    exact rt1 Tryz.f15 rfl rfl hR_ ⟨rfl, HS.b⟩
  refine wn_ (dF c5) ?_
  refine WC.skip ?_
  refine via_ hK3 ?_
  refine WC.seq fun K7 hK7 => ?_
  refine sr_ fun _ hK8 => ?_
  refine as_ ?_
  refine dn_ hK8 ?_
  refine WC.block ?_
  obtain ⟨G9, hG10, o11, H, Ho12⟩ := open_G H
  have X15 : ∀ E_ W_, (∃ (i13 : Int) (i14 : Int), E_ = [(0, .slice A0 l0.length c0), (1, .int .i64 i13), (5, .int .i64 i14)] ∧ G9 (Sum.inr (i13, i14)) = some r ∧ St (fun _ => True) w W_ [] [(fun W => k78.C W A0 l0.length l0)] []) → ∀ a, Fits a 27 E_ → K7 a W_ := by
    rintro E_ w16 ⟨i13, i14, rfl, H, HS⟩
    rw [hG10] at H
    (try dsimp only at H)
    refine hK7 _ _ ?_
    refine sr_ fun _ hK17 => ?_
    refine mv_ ?_
    refine as_ ?_
    refine dn_ hK17 ?_
    cases H
    exact rt1 Tryz.f15 rfl rfl hR_ ⟨rfl, HS.b⟩
  refine WC.loop (fun k_ E_ W_ => ∃ (i13 : Int) (i14 : Int), E_ = [(0, .slice A0 l0.length c0), (1, .int .i64 i13), (5, .int .i64 i14)] ∧ (∃ o_, laws_szLayerS.l0 l0 k_ i13 i14 = some o_ ∧ G9 o_ = some r) ∧ St (fun _ => True) w W_ [] [(fun W => k78.C W A0 l0.length l0)] []) k ⟨(wrap64 (a1 - (l0.length : Int))), 0, rfl, ⟨_, H, Ho12⟩, (St.pick HS (fun W_ h_ => ⟨AllF.get 0 rfl h_, trivial⟩) (fun W_ h_ => trivial))⟩ ⟨rfl, rfl, rfl, trivial⟩ ?_
  rintro k_ E_ w19 ⟨i13, i14, rfl, ⟨o11, H, Ho12⟩, HS⟩
  rcases k_ with _ | k20
  · exact no_ H
  replace H : laws_szLayerS.b0 l0 (laws_szLayerS.l0 l0 k20) k20 i13 i14 = some o11 := H
  unfold laws_szLayerS.b0 at H
  refine WC.seq fun _ hK21 => ?_
  refine sr_ fun _ hK22 => ?_
  refine mv_ ?_
  refine mv_ ?_
  refine ln_ Tryz.underlying27 ?_
  refine b_ bin_lss ?_
  refine dn_ hK22 ?_
  rcases eti_ H with ⟨c23, H⟩ | ⟨c23, H⟩
  · refine wn_ (dF c23) ?_
    refine WC.exit ?_
    cases H
    exact WQ.via2 (fun _ _ h_ => h_) X15 ⟨i13, i14, rfl, Ho12, (St.pick HS (fun W_ h_ => ⟨AllF.get 0 rfl h_, trivial⟩) (fun W_ h_ => trivial))⟩ ⟨rfl, rfl, rfl, trivial⟩
  refine wy_ (dT c23) ?_
  refine WC.skip ?_
  refine via_ hK21 ?_
  refine WC.seq fun _ hK24 => ?_
  refine WC.block ?_
  refine sr_ fun _ hK25 => ?_
  refine mv_ ?_
  refine mv_ ?_
  obtain ⟨⟨q26, q27⟩, H⟩ := if_some H
  obtain ⟨ad28, rfl⟩ := C_open (HS.getO 0 rfl) (by omega)
  refine v_ (ia_ Tryz.underlying27 32 q26 q27) ?_
  obtain ⟨e29, el30, HS⟩ := HS.elO 0 rfl (by decide) o78 i14 q26 q27
  replace HS := HS.deriveO (p := (fun W => k78.K W (l0.getD i14.toNat o78) e29)) (fun W_ hO_ hN_ => (AllF.get 0 rfl hO_).1)
  refine v_ (Run.loadS (cs := e29) rfl rfl Tryz.underlying78 rfl (by rw [el30]; kernel_rfl) (HS.getO 1 rfl).2) ?_
  refine mv_ ?_
  obtain ⟨t31, ha32, H⟩ := bind_some H
  refine cs_ HS Tryz.func38 (laws_szLayer.runs k20 e29 (l0.getD i14.toNat o78) i13 t31 _ (HS.getO 0 rfl) ha32) (fun w33 HS => ?_)
  refine as_ ?_
  refine dn_ hK25 ?_
  refine sr_ fun _ hK34 => ?_
  refine mv_ ?_
  refine b_ bin_lss ?_
  refine dn_ hK34 ?_
  rcases ite_ H with ⟨c35, H⟩ | ⟨c35, H⟩
  · refine wy_ (dT c35) ?_
    refine sr_ fun _ hK36 => ?_
    refine as_ ?_
    refine dn_ hK36 ?_
    refine WC.ret ?_
    cases H
    rw [hG10] at Ho12
    replace H : some _ = some _ := Ho12
    cases H
    exact fin1 Tryz.f15 rfl rfl hR_ ⟨rfl, HS.b⟩
  refine wn_ (dF c35) ?_
  refine WC.skip ?_
  refine via_ hK24 ?_
  refine rg_ ?_
  refine mv_ ?_
  refine b_ bin_add64 ?_
  refine as_ ?_
  refine WL.done ?_
  exact WQ.round k20 (fun _ _ h_ => h_) (Nat.lt_succ_self _) ⟨t31, (wrap64 (i14 + 1)), rfl, ⟨_, H, Ho12⟩, (St.pick HS (fun W_ h_ => ⟨AllF.get 2 rfl h_, trivial⟩) (fun W_ h_ => trivial))⟩ ⟨rfl, rfl, rfl, trivial⟩
def laws_szModel.g (k : Nat) (x0 : S34) (a1 : Int) : Option Int := ((laws_szMergeS.f x0.f3 a1).bind fun t9 => (if t9 < 0 then (some (-1)) else ((laws_szIntSS.f k x0.f4 t9).bind fun t21 => (if t21 < 0 then (some (-1)) else ((laws_szLayerS.g k x0.f5 t21).bind fun t33 => (if t33 < 0 then (some (-1)) else ((laws_szIntS.f x0.f6 t33).bind fun t45 => (if t45 < 0 then (some (-1)) else ((laws_szMatrix.g k x0.f7 t45).bind fun t61 => (if t61 < 0 then (some (-1)) else ((laws_szTurns.g k x0.f8 t61).bind fun t77 => (if t77 < 0 then (some (-1)) else (some t77)))))))))))))
theorem laws_szModel.runs (k : Nat) (cs0 : List Value) (x0 : S34) (a1 : Int) (r : Int) (w : World) (hk0 : k34.K w x0 cs0) (H : laws_szModel.g k x0 a1 = some r) :
    Calls Tryz.prog 5 #[.agg cs0.toArray, .int .i64 a1] w fun e w' => e = .returned (.int .i64 r) ∧ Below w.heap.size w w' := by
  have el0 : cs0.length = 14 := k34.K_len hk0
  unfold laws_szModel.g at H
  have HS : St (fun _ => True) w w [] [(fun W => k34.K W x0 cs0)] [] := St.start (foot_cons (foot_K h34 hk0) foot_nil)
  refine cw_ Tryz.func5 fun R_ hR_ => ?_
  refine sr_ fun _ hK1 => ?_
  refine bo_ HS (fun b2 w3 hb2 HS => ?_)
  refine as_ ?_
  refine dn_ hK1 ?_
  refine sr_ fun _ hK4 => ?_
  refine v_ (fa_ Tryz.underlying34) ?_
  obtain ⟨A5, c6, hc7, le8, HS⟩ := HS.sO 0 rfl at34_3
  refine v_ (lb_ (HS.mu 0 rfl) Tryz.underlying25 hc7) ?_
  refine mv_ ?_
  obtain ⟨t9, ha10, H⟩ := bind_some H
  refine cs0_ HS Tryz.func13 (laws_szMergeS.calls A5 c6 x0.f3 a1 t9 _ (HS.getO 0 rfl) le8 ha10) (fun w11 HS => ?_)
  refine as_ ?_
  refine dn_ hK4 ?_
  refine WC.seq fun _ hK12 => ?_
  refine sr_ fun _ hK13 => ?_
  refine mv_ ?_
  refine b_ bin_lss ?_
  refine dn_ hK13 ?_
  rcases ite_ H with ⟨c14, H⟩ | ⟨c14, H⟩
  · refine wy_ (dT c14) ?_
    refine sr_ fun _ hK15 => ?_
    refine as_ ?_
    refine dn_ hK15 ?_
    cases H
    exact rt1 Tryz.f5 rfl rfl hR_ ⟨rfl, HS.b⟩
  refine wn_ (dF c14) ?_
  refine WC.skip ?_
  refine via_ hK12 ?_
  refine sr_ fun _ hK16 => ?_
  refine v_ (fa_ Tryz.underlying34) ?_
  obtain ⟨A17, c18, hc19, le20, HS⟩ := HS.sO 1 rfl at34_4
  refine v_ (lb_ (HS.mu 0 rfl) Tryz.underlying26 hc19) ?_
  refine mv_ ?_
  obtain ⟨t21, ha22, H⟩ := bind_some H
  refine cs0_ HS Tryz.func14 (laws_szIntSS.calls k A17 c18 x0.f4 t9 t21 _ (HS.getO 0 rfl) le20 ha22) (fun w23 HS => ?_)
  refine as_ ?_
  refine dn_ hK16 ?_
  refine WC.seq fun _ hK24 => ?_
  refine sr_ fun _ hK25 => ?_
  refine mv_ ?_
  refine b_ bin_lss ?_
  refine dn_ hK25 ?_
  rcases ite_ H with ⟨c26, H⟩ | ⟨c26, H⟩
  · refine wy_ (dT c26) ?_
    refine sr_ fun _ hK27 => ?_
    refine as_ ?_
    refine dn_ hK27 ?_
    cases H
    exact rt1 Tryz.f5 rfl rfl hR_ ⟨rfl, HS.b⟩
  refine wn_ (dF c26) ?_
  refine WC.skip ?_
  refine via_ hK24 ?_
  refine sr_ fun _ hK28 => ?_
  refine v_ (fa_ Tryz.underlying34) ?_
  obtain ⟨A29, c30, hc31, le32, HS⟩ := HS.sO 2 rfl at34_5
  refine v_ (lb_ (HS.mu 0 rfl) Tryz.underlying27 hc31) ?_
  refine mv_ ?_
  obtain ⟨t33, ha34, H⟩ := bind_some H
  refine cs_ HS Tryz.func15 (laws_szLayerS.runs k A29 c30 x0.f5 t21 t33 _ (HS.getO 0 rfl) le32 ha34) (fun w35 HS => ?_)
  refine as_ ?_
  refine dn_ hK28 ?_
  refine WC.seq fun _ hK36 => ?_
  refine sr_ fun _ hK37 => ?_
  refine mv_ ?_
  refine b_ bin_lss ?_
  refine dn_ hK37 ?_
  rcases ite_ H with ⟨c38, H⟩ | ⟨c38, H⟩
  · refine wy_ (dT c38) ?_
    refine sr_ fun _ hK39 => ?_
    refine as_ ?_
    refine dn_ hK39 ?_
    cases H
    exact rt1 Tryz.f5 rfl rfl hR_ ⟨rfl, HS.b⟩
  refine wn_ (dF c38) ?_
  refine WC.skip ?_
  refine via_ hK36 ?_
  refine sr_ fun _ hK40 => ?_
  refine v_ (fa_ Tryz.underlying34) ?_
  obtain ⟨A41, c42, hc43, le44, HS⟩ := HS.sO 3 rfl at34_6
  refine v_ (lb_ (HS.mu 0 rfl) Tryz.underlying28 hc43) ?_
  refine mv_ ?_
  obtain ⟨t45, ha46, H⟩ := bind_some H
  refine cs0_ HS Tryz.func16 (laws_szIntS.calls A41 c42 x0.f6 t33 t45 _ (HS.getO 0 rfl) le44 ha46) (fun w47 HS => ?_)
  refine as_ ?_
  refine dn_ hK40 ?_
  refine WC.seq fun _ hK48 => ?_
  refine sr_ fun _ hK49 => ?_
  refine mv_ ?_
  refine b_ bin_lss ?_
  refine dn_ hK49 ?_
  rcases ite_ H with ⟨c50, H⟩ | ⟨c50, H⟩
  · refine wy_ (dT c50) ?_
    refine sr_ fun _ hK51 => ?_
    refine as_ ?_
    refine dn_ hK51 ?_
    cases H
    exact rt1 Tryz.f5 rfl rfl hR_ ⟨rfl, HS.b⟩
  refine wn_ (dF c50) ?_
  refine WC.skip ?_
  refine via_ hK48 ?_
  refine sr_ fun _ hK52 => ?_
  refine v_ (fa_ Tryz.underlying34) ?_
  obtain ⟨A53, c54, hc55, le56, HS⟩ := HS.sO 4 rfl at34_8
  obtain ⟨A57, c58, hc59, le60, HS⟩ := HS.sO 5 rfl at34_9
  refine v_ (ls_ (HS.mu 0 rfl) Tryz.underlying30 (part_cons (at34_7 (HS.aO 6 rfl)).int (part_cons hc55 (part_cons hc59 (part_cons (at34_10 (HS.aO 6 rfl)).int (part_cons (at34_11 (HS.aO 6 rfl)).int part_nil)))))) ?_
  refine mv_ ?_
  obtain ⟨t61, ha62, H⟩ := bind_some H
  refine cs_ HS Tryz.func17 (laws_szMatrix.runs k x0.f7 A53 c54 A57 c58 t45 t61 _ (HS.getO 1 rfl) le56 (HS.getO 0 rfl) le60 ha62) (fun w63 HS => ?_)
  refine as_ ?_
  refine dn_ hK52 ?_
  refine WC.seq fun _ hK64 => ?_
  refine sr_ fun _ hK65 => ?_
  refine mv_ ?_
  refine b_ bin_lss ?_
  refine dn_ hK65 ?_
  rcases ite_ H with ⟨c66, H⟩ | ⟨c66, H⟩
  · refine wy_ (dT c66) ?_
    refine sr_ fun _ hK67 => ?_
    refine as_ ?_
    refine dn_ hK67 ?_
    cases H
    exact rt1 Tryz.f5 rfl rfl hR_ ⟨rfl, HS.b⟩
  refine wn_ (dF c66) ?_
  refine WC.skip ?_
  refine via_ hK64 ?_
  refine sr_ fun _ hK68 => ?_
  refine v_ (fa_ Tryz.underlying34) ?_
  obtain ⟨A69, c70, hc71, le72, HS⟩ := HS.sO 6 rfl at34_12
  obtain ⟨A73, c74, hc75, le76, HS⟩ := HS.sO 7 rfl at34_13
  refine v_ (ls_ (HS.mu 0 rfl) Tryz.underlying32 (part_cons hc71 (part_cons hc75 part_nil))) ?_
  refine mv_ ?_
  obtain ⟨t77, ha78, H⟩ := bind_some H
  refine cs_ HS Tryz.func18 (laws_szTurns.runs k x0.f8 A69 c70 A73 c74 t61 t77 _ (HS.getO 1 rfl) le72 (HS.getO 0 rfl) le76 ha78) (fun w79 HS => ?_)
  refine as_ ?_
  refine dn_ hK68 ?_
  refine WC.seq fun _ hK80 => ?_
  refine sr_ fun _ hK81 => ?_
  refine mv_ ?_
  refine b_ bin_lss ?_
  refine dn_ hK81 ?_
  rcases ite_ H with ⟨c82, H⟩ | ⟨c82, H⟩
  · refine wy_ (dT c82) ?_
    refine sr_ fun _ hK83 => ?_
    refine as_ ?_
    refine dn_ hK83 ?_
    cases H
    exact rt1 Tryz.f5 rfl rfl hR_ ⟨rfl, HS.b⟩
  refine wn_ (dF c82) ?_
  refine WC.skip ?_
  refine via_ hK80 ?_
  refine sr_ fun _ hK84 => ?_
  refine mv_ ?_
  refine as_ ?_
  refine dn_ hK84 ?_
  cases H
  exact rt1 Tryz.f5 rfl rfl hR_ ⟨rfl, HS.b⟩
end Go.Proofs.YtacbkcofcbglhaaGreat.PFnExactCellOk
