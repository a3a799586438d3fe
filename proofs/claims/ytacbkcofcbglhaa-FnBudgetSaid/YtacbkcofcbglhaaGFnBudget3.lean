/- Functions that the statement reaches, as Lean functions, and the proof that a call of each comes to just its answer; written by this claim's own program. No conditions. -/
import Derived.Test.YtacbkcofcbglhaaGFnBudget2
namespace Go.Proofs.Ytacbkcofcbglhaa.PFnBudget
open Go.RowKit Go.Proofs.YtacbkcofcbglhaaW.PrintWords Go.Proofs.YtacbkcofcbglhaaW.PrintLast Go.Proofs.YtacbkcofcbglhaaW.PrintMore Go.Proofs.Ytacbkcofcbglhaa.XW Go.Proofs.Ytacbkcofcbglhaa.XOp Go.Proofs.Ytacbkcofcbglhaa.XSt Go.Proofs.Ytacbkcofcbglhaa.XDraw
set_option linter.unusedVariables false
set_option linter.unusedSimpArgs false
set_option maxHeartbeats 4000000
set_option maxRecDepth 20000
def spec_ModelOk.b3 (x0 : S39) (rec_ : Int → Option (Bool ⊕ Int)) (k236 : Nat) (i166 : Int) : Option (Bool ⊕ Int) := (if i166 < (x0.f4.length : Int) then (if 0 ≤ i166 ∧ i166 < (x0.f4.length : Int) then (if ((x0.f4.getD i166.toNat []).length : Int) = x0.f0 then ((spec_l05All.f k236 (x0.f4.getD i166.toNat []) (-127) 127).bind fun t250 => (if t250 = true then (rec_ (wrap64 (i166 + 1))) else (some (Sum.inl false)))) else (some (Sum.inl false))) else none) else (some (Sum.inr i166)))
def spec_ModelOk.l3 (x0 : S39) : Nat → Int → Option (Bool ⊕ Int)
  | 0, _ => none
  | k + 1, i166 => spec_ModelOk.b3 x0 (spec_ModelOk.l3 x0 k) k i166
def spec_ModelOk.b2 (x0 : S39) (rec_ : Int → Option (Bool ⊕ Int)) (k217 : Nat) (i175 : Int) : Option (Bool ⊕ Int) := (if i175 < (x0.f5.length : Int) then (if 0 ≤ i175 ∧ i175 < (x0.f5.length : Int) then ((spec_LayerOk.g k217 (x0.f5.getD i175.toNat o48) x0.f0).bind fun t229 => (if t229 = true then (rec_ (wrap64 (i175 + 1))) else (some (Sum.inl false)))) else none) else (some (Sum.inr i175)))
def spec_ModelOk.l2 (x0 : S39) : Nat → Int → Option (Bool ⊕ Int)
  | 0, _ => none
  | k + 1, i175 => spec_ModelOk.b2 x0 (spec_ModelOk.l2 x0 k) k i175
def spec_ModelOk.b1 (x0 : S39) (rec_ : Int → Option (Bool ⊕ Int)) (k112 : Nat) (i42 : Int) : Option (Bool ⊕ Int) := (if i42 < (x0.f4.length : Int) then (if 0 ≤ i42 ∧ i42 < (x0.f4.length : Int) then (if ((x0.f4.getD i42.toNat []).length : Int) = x0.f0 then ((spec_l05All.f k112 (x0.f4.getD i42.toNat []) (-127) 127).bind fun t126 => (if t126 = true then (rec_ (wrap64 (i42 + 1))) else (some (Sum.inl false)))) else (some (Sum.inl false))) else none) else (some (Sum.inr i42)))
def spec_ModelOk.l1 (x0 : S39) : Nat → Int → Option (Bool ⊕ Int)
  | 0, _ => none
  | k + 1, i42 => spec_ModelOk.b1 x0 (spec_ModelOk.l1 x0 k) k i42
def spec_ModelOk.b0 (x0 : S39) (rec_ : Int → Option (Bool ⊕ Int)) (k93 : Nat) (i51 : Int) : Option (Bool ⊕ Int) := (if i51 < (x0.f5.length : Int) then (if 0 ≤ i51 ∧ i51 < (x0.f5.length : Int) then ((spec_LayerOk.g k93 (x0.f5.getD i51.toNat o48) x0.f0).bind fun t105 => (if t105 = true then (rec_ (wrap64 (i51 + 1))) else (some (Sum.inl false)))) else none) else (some (Sum.inr i51)))
def spec_ModelOk.l0 (x0 : S39) : Nat → Int → Option (Bool ⊕ Int)
  | 0, _ => none
  | k + 1, i51 => spec_ModelOk.b0 x0 (spec_ModelOk.l0 x0 k) k i51
def spec_ModelOk.g (k : Nat) (x0 : S39) : Option Bool := ((spec_l05Width.f x0.f0).bind fun t7 => (if t7 = true then (if x0.f1 = 1 then ((spec_MergesOk.f k x0.f3).bind fun t16 => (if t16 = true then ((spec_Vocab.g k x0).bind fun t24 => (if (x0.f4.length : Int) = t24 then ((spec_l01In.f (x0.f5.length : Int) 1 2).bind fun t32 => (if t32 = true then ((spec_ModelOk.l1 x0 k 0).bind (fun o110 => match o110 with | .inl r_ => some r_ | .inr i42 => ((spec_ModelOk.l0 x0 k 0).bind (fun o91 => match o91 with | .inl r_ => some r_ | .inr i51 => ((spec_GainOk.f k x0.f6 x0.f0).bind fun t60 => (if t60 = true then ((spec_Vocab.g k x0).bind fun t72 => ((spec_l10Matrix.g k x0.f7 x0.f0 t72).bind fun t75 => (if t75 = true then (if x0.f1 ≠ 0 then ((spec_TurnsOk.f k x0.f8.f0 x0.f8.f1 x0.f2 (wrap64 (Int.tdiv (wrap64 (Int.tdiv x0.f0 x0.f1)) 2))).bind fun t88 => (some t88)) else none) else (some false)))) else (some false))))))) else (some false))) else (some false))) else (some false))) else (if x0.f1 = 2 then ((spec_MergesOk.f k x0.f3).bind fun t140 => (if t140 = true then ((spec_Vocab.g k x0).bind fun t148 => (if (x0.f4.length : Int) = t148 then ((spec_l01In.f (x0.f5.length : Int) 1 2).bind fun t156 => (if t156 = true then ((spec_ModelOk.l3 x0 k 0).bind (fun o234 => match o234 with | .inl r_ => some r_ | .inr i166 => ((spec_ModelOk.l2 x0 k 0).bind (fun o215 => match o215 with | .inl r_ => some r_ | .inr i175 => ((spec_GainOk.f k x0.f6 x0.f0).bind fun t184 => (if t184 = true then ((spec_Vocab.g k x0).bind fun t196 => ((spec_l10Matrix.g k x0.f7 x0.f0 t196).bind fun t199 => (if t199 = true then (if x0.f1 ≠ 0 then ((spec_TurnsOk.f k x0.f8.f0 x0.f8.f1 x0.f2 (wrap64 (Int.tdiv (wrap64 (Int.tdiv x0.f0 x0.f1)) 2))).bind fun t212 => (some t212)) else none) else (some false)))) else (some false))))))) else (some false))) else (some false))) else (some false))) else (some false))) else (some false)))
theorem spec_ModelOk.runs (k : Nat) (cs0 : List Value) (x0 : S39) (r : Bool) (w : World) (hk0 : k39.K w x0 cs0) (H : spec_ModelOk.g k x0 = some r) :
    Calls Try.prog 24 #[.agg cs0.toArray] w fun e w' => e = .returned (.bool r) ∧ Below w.heap.size w w' := by
  have el0 : cs0.length = 14 := k39.K_len hk0
  unfold spec_ModelOk.g at H
  have HS : St (fun _ => True) w w [] [(fun W => k39.K W x0 cs0)] [] := St.start (foot_cons (foot_K h39 hk0) foot_nil)
  refine cw_ (n := 108) Try.func24 fun R_ hR_ => ?_
  refine sr_ fun _ hK1 => ?_
  refine bo_ HS (fun b2 w3 hb2 HS => ?_)
  exact by (
  refine as_ ?_
  refine dn_ hK1 ?_
  clear hK1
  refine WC.seq fun _ hK4 => ?_
  refine WC.seq fun _ hK5 => ?_
  refine WC.drawS HS [] rfl rfl (fun w6 HS => ?_)
  exact by (
  have HB := Below.refl w6.heap.size w6
  have HSW := HS
  refine df_ 0 Try.underlying39 ?_
  refine bl_ 1 HS (Below.refl _ _) 0 Try.underlying3 (at39_0 (HS.aO 0 rfl)).int ?_
  obtain ⟨t7, ha8, H⟩ := bind_some H
  refine dcs0_ HS HB 2 (w_none rfl) Try.func61 (spec_l05Width.calls x0.f0 t7 _ ha8) (fun w9 HS HB => ?_)
  exact by (
  clear ha8
  refine dp_ 3 (fun _ => Run.not rfl rfl) ?_
  refine dm_ 4 ?_
  rcases eti_ H with ⟨c10, H⟩ | ⟨c10, H⟩
  · refine doT_ 5 (nB (bF c10)) ?_
    refine doT_ 6 (nB (bF c10)) ?_
    exact by (
    refine doT_ 7 (nB (bF c10)) ?_
    refine doT_ 8 (nB (bF c10)) ?_
    refine du_ 9 ?_
    refine du_ 10 ?_
    refine du_ 11 ?_
    refine doT_ 12 (nB (bF c10)) ?_
    exact by (
    refine dp_ 13 (fun _ => Run.pickT rfl rfl (nB (bF c10)) rfl) ?_
    refine dm_ 14 ?_
    refine doT_ 15 rfl ?_
    refine doT_ 16 rfl ?_
    refine doT_ 17 rfl ?_
    refine doT_ 18 rfl ?_
    exact by (
    refine dp_ 19 (fun _ => Run.pickT rfl rfl rfl rfl) ?_
    refine dm_ 20 ?_
    refine doT_ 21 rfl ?_
    refine doT_ 22 rfl ?_
    refine doT_ 23 rfl ?_
    refine doT_ 24 rfl ?_
    exact by (
    refine doT_ 25 rfl ?_
    refine doT_ 26 rfl ?_
    refine dp_ 27 (fun _ => Run.pickT rfl rfl rfl rfl) ?_
    refine dm_ 28 ?_
    refine doT_ 29 rfl ?_
    refine doT_ 30 rfl ?_
    exact by (
    refine doT_ 31 rfl ?_
    refine doT_ 32 rfl ?_
    refine doT_ 33 rfl ?_
    refine dp_ 34 (fun _ => Run.pickT rfl rfl rfl rfl) ?_
    refine dd_ ?_
    clear HB HSW
    exact by (
    refine via_ hK5 ?_
    clear hK5
    refine wy_ rfl ?_
    refine sr_ fun _ hK260 => ?_
    refine as_ ?_
    refine dn_ hK260 ?_
    exact by (
    clear hK260
    obtain rfl := os H
    exact rt1 Try.f24 rfl rfl hR_ ⟨rfl, HS.b⟩ )))))))
  refine dfg_ 5 (nB c10) Try.underlying39 ?_
  refine blg_ 6 (nB c10) HSW HB 0 Try.underlying3 (at39_1 (HSW.aO 0 rfl)).int ?_
  refine dg_ 7 (nB c10) (fun _ => Run.bin rfl rfl rfl bin_neq) ?_
  exact by (
  refine dg_ 8 (nB c10) (fun _ => Run.move rfl rfl) ?_
  rcases ite_ H with ⟨c11, H⟩ | ⟨c11, H⟩
  · refine doF_ 9 (qF c11) ?_
    refine doF_ 10 (qF c11) ?_
    refine doF_ 11 (qF c11) ?_
    refine dg_ 12 (nB c10) (fun _ => Run.pickF rfl rfl (qF c11) rfl) ?_
    exact by (
    refine dp_ 13 (fun _ => Run.pickF rfl rfl (nB c10) rfl) ?_
    refine dm_ 14 ?_
    refine dfg_ 15 rfl Try.underlying39 ?_
    obtain ⟨A12, c13, hc14, le15, HS⟩ := HS.sO 0 rfl at39_3
    refine blg_ 16 rfl HSW HB 0 Try.underlying34 hc14 ?_
    obtain ⟨t16, ha17, H⟩ := bind_some H
    exact by (
    refine dcs_ HS HB 17 (w_on rfl rfl rfl rfl) Try.func66 (spec_MergesOk.calls k A12 c13 x0.f3 t16 _ (HS.getO 0 rfl) le15 ha17) (fun w18 HS HB => ?_)
    clear ha17
    refine dg_ 18 rfl (fun _ => Run.not rfl rfl) ?_
    refine dp_ 19 (fun _ => Run.pickF rfl rfl rfl rfl) ?_
    refine dm_ 20 ?_
    rcases eti_ H with ⟨c19, H⟩ | ⟨c19, H⟩
    · refine doT_ 21 (nB (bF c19)) ?_
      exact by (
      refine doT_ 22 (nB (bF c19)) ?_
      refine doT_ 23 (nB (bF c19)) ?_
      refine doT_ 24 (nB (bF c19)) ?_
      refine doT_ 25 (nB (bF c19)) ?_
      refine doT_ 26 (nB (bF c19)) ?_
      refine dp_ 27 (fun _ => Run.pickT rfl rfl (nB (bF c19)) rfl) ?_
      exact by (
      refine dm_ 28 ?_
      refine doT_ 29 rfl ?_
      refine doT_ 30 rfl ?_
      refine doT_ 31 rfl ?_
      refine doT_ 32 rfl ?_
      refine doT_ 33 rfl ?_
      exact by (
      refine dp_ 34 (fun _ => Run.pickT rfl rfl rfl rfl) ?_
      refine dd_ ?_
      clear HB HSW
      refine via_ hK5 ?_
      clear hK5
      refine wy_ rfl ?_
      exact by (
      refine sr_ fun _ hK134 => ?_
      refine as_ ?_
      refine dn_ hK134 ?_
      clear hK134
      obtain rfl := os H
      exact rt1 Try.f24 rfl rfl hR_ ⟨rfl, HS.b⟩ ))))
    exact by (
    refine dfg_ 21 (nB c19) Try.underlying39 ?_
    obtain ⟨A20, c21, hc22, le23, HS⟩ := HS.sO 1 rfl at39_4
    refine blg_ 22 (nB c19) HSW HB 0 Try.underlying23 hc22 ?_
    refine dg_ 23 (nB c19) (fun _ => Run.len (ts := #[]) rfl Try.underlying23 rfl) ?_
    refine dh_ 24 (nB c19) HB (fun w_ hw_ => Run.loadS (cs := cs0) rfl rfl Try.underlying39 rfl (by rw [el0]; kernel_rfl) (box_part ((HSW.below hw_).mu 0 rfl) part_all)) ?_
    obtain ⟨t24, ha25, H⟩ := bind_some H
    exact by (
    refine dcs_ HS HB 25 (w_on rfl rfl rfl (nB c19)) Try.func15 (spec_Vocab.runs k cs0 x0 t24 _ (HS.getO 2 rfl) ha25) (fun w26 HS HB => ?_)
    clear ha25
    refine dg_ 26 (nB c19) (fun _ => Run.bin rfl rfl rfl bin_neq) ?_
    refine dp_ 27 (fun _ => Run.pickF rfl rfl (nB c19) rfl) ?_
    refine dm_ 28 ?_
    rcases eti_ H with ⟨c27, H⟩ | ⟨c27, H⟩
    · refine doT_ 29 (qT c27) ?_
      exact by (
      refine doT_ 30 (qT c27) ?_
      refine doT_ 31 (qT c27) ?_
      refine doT_ 32 (qT c27) ?_
      refine doT_ 33 (qT c27) ?_
      refine dp_ 34 (fun _ => Run.pickT rfl rfl (qT c27) rfl) ?_
      refine dd_ ?_
      exact by (
      clear HB HSW
      refine via_ hK5 ?_
      clear hK5
      refine wy_ rfl ?_
      refine sr_ fun _ hK133 => ?_
      refine as_ ?_
      exact by (
      refine dn_ hK133 ?_
      clear hK133
      obtain rfl := os H
      exact rt1 Try.f24 rfl rfl hR_ ⟨rfl, HS.b⟩ )))
    refine dfg_ 29 (qF c27) Try.underlying39 ?_
    obtain ⟨A28, c29, hc30, le31, HS⟩ := HS.sO 2 rfl at39_5
    exact by (
    refine blg_ 30 (qF c27) HSW HB 0 Try.underlying35 hc30 ?_
    refine dg_ 31 (qF c27) (fun _ => Run.len (ts := #[]) rfl Try.underlying35 rfl) ?_
    obtain ⟨t32, ha33, H⟩ := bind_some H
    refine dcs0_ HS HB 32 (w_on rfl rfl rfl (qF c27)) Try.func67 (spec_l01In.calls (x0.f5.length : Int) 1 2 t32 _ ha33) (fun w34 HS HB => ?_)
    clear ha33
    refine dg_ 33 (qF c27) (fun _ => Run.not rfl rfl) ?_
    exact by (
    refine dp_ 34 (fun _ => Run.pickF rfl rfl (qF c27) rfl) ?_
    refine dd_ ?_
    clear HB HSW
    refine via_ hK5 ?_
    clear hK5
    rcases eti_ H with ⟨c35, H⟩ | ⟨c35, H⟩
    · refine wy_ (nB (bF c35)) ?_
      exact by (
      refine sr_ fun _ hK132 => ?_
      refine as_ ?_
      refine dn_ hK132 ?_
      clear hK132
      obtain rfl := os H
      exact rt1 Try.f24 rfl rfl hR_ ⟨rfl, HS.b⟩ )
    exact by (
    refine wn_ (nB c35) ?_
    refine WC.skip ?_
    refine via_ hK4 ?_
    clear hK4
    refine WC.seq fun K36 hK36 => ?_
    refine sr_ fun _ hK37 => ?_
    exact by (
    refine as_ ?_
    refine dn_ hK37 ?_
    clear hK37
    refine WC.block ?_
    obtain ⟨G38, hG39, o40, H, Ho41⟩ := open_G H
    have X43 : ∀ E_ W_, (∃ (i42 : Int), E_ = [(1, .pointer (some ⟨b2, 0, none⟩)), (3, .int .i64 i42)] ∧ G38 (Sum.inr i42) = some r ∧ St (fun _ => True) w W_ [boxM b2 cs0.toArray 39] [(fun W => k48.C W A28 x0.f5.length x0.f5), (fun W => (Kd.slice 3 (Kd.int .i64)).C W A20 x0.f4.length x0.f4), (fun W => k112.C W A12 x0.f3.length x0.f3), (fun W => k39.K W x0 cs0)] []) → ∀ a, Fits a 108 E_ → K36 a W_ := by
      exact by (
      rintro E_ w44 ⟨i42, rfl, H, HS⟩
      rw [hG39] at H
      (try dsimp only at H)
      refine hK36 _ _ ?_
      clear hK36
      refine WC.seq fun K45 hK45 => ?_
      exact by (
      refine sr_ fun _ hK46 => ?_
      refine as_ ?_
      refine dn_ hK46 ?_
      clear hK46
      refine WC.block ?_
      obtain ⟨G47, hG48, o49, H, Ho50⟩ := open_G H
      exact by (
      have X52 : ∀ E_ W_, (∃ (i51 : Int), E_ = [(1, .pointer (some ⟨b2, 0, none⟩)), (4, .int .i64 i51)] ∧ G47 (Sum.inr i51) = some r ∧ St (fun _ => True) w W_ [boxM b2 cs0.toArray 39] [(fun W => k48.C W A28 x0.f5.length x0.f5), (fun W => (Kd.slice 3 (Kd.int .i64)).C W A20 x0.f4.length x0.f4), (fun W => k112.C W A12 x0.f3.length x0.f3), (fun W => k39.K W x0 cs0)] []) → ∀ a, Fits a 108 E_ → K45 a W_ := by
        rintro E_ w53 ⟨i51, rfl, H, HS⟩
        rw [hG48] at H
        (try dsimp only at H)
        refine hK45 _ _ ?_
        clear hK45
        exact by (
        refine WC.seq fun _ hK54 => ?_
        refine WC.drawS HS [] rfl rfl (fun w55 HS => ?_)
        have HB := Below.refl w55.heap.size w55
        have HSW := HS
        refine df_ 0 Try.underlying39 ?_
        refine df_ 2 Try.underlying39 ?_
        exact by (
        obtain ⟨A56, c57, hc58, le59, HS⟩ := HS.sO 3 rfl at39_6
        refine bl_ 1 HS (Below.refl _ _) 0 Try.underlying25 hc58 ?_
        refine bl_ 3 HS (Below.refl _ _) 0 Try.underlying3 (at39_0 (HS.aO 4 rfl)).int ?_
        obtain ⟨t60, ha61, H⟩ := bind_some H
        refine dcs0_ HS HB 4 (w_none rfl) Try.func62 (spec_GainOk.calls k A56 c57 x0.f6 x0.f0 t60 _ (HS.getO 0 rfl) le59 ha61) (fun w62 HS HB => ?_)
        clear ha61
        exact by (
        refine dm_ 5 ?_
        rcases eti_ H with ⟨c63, H⟩ | ⟨c63, H⟩
        · refine doF_ 6 (bF c63) ?_
          refine doF_ 7 (bF c63) ?_
          refine doF_ 8 (bF c63) ?_
          refine doF_ 9 (bF c63) ?_
          exact by (
          refine doF_ 10 (bF c63) ?_
          refine doF_ 11 (bF c63) ?_
          refine doF_ 12 (bF c63) ?_
          refine dp_ 13 (fun _ => Run.pickF rfl rfl (bF c63) rfl) ?_
          refine dm_ 14 ?_
          refine doF_ 15 rfl ?_
          exact by (
          refine doF_ 16 rfl ?_
          refine doF_ 17 rfl ?_
          refine doF_ 18 rfl ?_
          refine doF_ 19 rfl ?_
          refine doF_ 20 rfl ?_
          refine doF_ 21 rfl ?_
          exact by (
          refine doF_ 22 rfl ?_
          refine doF_ 23 rfl ?_
          refine doF_ 24 rfl ?_
          refine doF_ 25 rfl ?_
          refine dp_ 26 (fun _ => Run.pickF rfl rfl rfl rfl) ?_
          refine dp_ 27 (fun _ => Run.assign rfl rfl) ?_
          exact by (
          refine dd_ ?_
          clear HB HSW
          refine via_ hK54 ?_
          clear hK54
          obtain rfl := os H
          exact rt1 Try.f24 rfl rfl hR_ ⟨rfl, HS.b⟩ ))))
        exact by (
        refine dfg_ 6 c63 Try.underlying39 ?_
        refine dfg_ 8 c63 Try.underlying39 ?_
        obtain ⟨A64, c65, hc66, le67, HS⟩ := HS.sO 4 rfl at39_8
        obtain ⟨A68, c69, hc70, le71, HS⟩ := HS.sO 5 rfl at39_9
        refine dh_ 7 c63 HB (fun w_ hw_ => Run.loadS (cs := [.int .i64 x0.f7.f0, .slice A64 x0.f7.f1.length c65, .slice A68 x0.f7.f2.length c69, .int .i64 x0.f7.f3, .int .i64 x0.f7.f4]) rfl rfl Try.underlying36 rfl (by kernel_rfl) (box_part ((HSW.below hw_).mu 0 rfl) (part_cons (at39_7 ((HSW.below hw_).aO 3 rfl)).int (part_cons hc66 (part_cons hc70 (part_cons (at39_10 ((HSW.below hw_).aO 3 rfl)).int (part_cons (at39_11 ((HSW.below hw_).aO 3 rfl)).int part_nil))))))) ?_
        refine blg_ 9 c63 HSW HB 0 Try.underlying3 (at39_0 (HSW.aO 3 rfl)).int ?_
        exact by (
        refine dh_ 10 c63 HB (fun w_ hw_ => Run.loadS (cs := cs0) rfl rfl Try.underlying39 rfl (by rw [el0]; kernel_rfl) (box_part ((HSW.below hw_).mu 0 rfl) part_all)) ?_
        obtain ⟨t72, ha73, H⟩ := bind_some H
        refine dcs_ HS HB 11 (w_on rfl rfl rfl c63) Try.func15 (spec_Vocab.runs k cs0 x0 t72 _ (HS.getO 6 rfl) ha73) (fun w74 HS HB => ?_)
        clear ha73
        obtain ⟨t75, ha76, H⟩ := bind_some H
        refine dcs_ HS HB 12 (w_on rfl rfl rfl c63) Try.func63 (spec_l10Matrix.runs k x0.f7 A64 c65 A68 c69 x0.f0 t72 t75 _ (HS.getO 1 rfl) le67 (HS.getO 0 rfl) le71 ha76) (fun w77 HS HB => ?_)
        exact by (
        clear ha76
        refine dp_ 13 (fun _ => Run.pickT rfl rfl c63 rfl) ?_
        refine dm_ 14 ?_
        rcases eti_ H with ⟨c78, H⟩ | ⟨c78, H⟩
        · refine doF_ 15 (bF c78) ?_
          refine doF_ 16 (bF c78) ?_
          exact by (
          refine doF_ 17 (bF c78) ?_
          refine doF_ 18 (bF c78) ?_
          refine doF_ 19 (bF c78) ?_
          refine doF_ 20 (bF c78) ?_
          refine doF_ 21 (bF c78) ?_
          refine doF_ 22 (bF c78) ?_
          exact by (
          refine doF_ 23 (bF c78) ?_
          refine doF_ 24 (bF c78) ?_
          refine doF_ 25 (bF c78) ?_
          refine dp_ 26 (fun _ => Run.pickF rfl rfl (bF c78) rfl) ?_
          refine dp_ 27 (fun _ => Run.assign rfl rfl) ?_
          refine dd_ ?_
          exact by (
          clear HB HSW
          refine via_ hK54 ?_
          clear hK54
          obtain rfl := os H
          exact rt1 Try.f24 rfl rfl hR_ ⟨rfl, HS.b⟩ )))
        refine dfg_ 15 c78 Try.underlying39 ?_
        exact by (
        refine dfg_ 17 c78 Try.underlying39 ?_
        refine dfg_ 19 c78 Try.underlying39 ?_
        refine dfg_ 21 c78 Try.underlying39 ?_
        obtain ⟨A79, c80, hc81, le82, HS⟩ := HS.sO 6 rfl at39_12
        obtain ⟨A83, c84, hc85, le86, HS⟩ := HS.sO 7 rfl at39_13
        refine dh_ 16 c78 HB (fun w_ hw_ => Run.loadS (cs := [.slice A79 x0.f8.f0.length c80, .slice A83 x0.f8.f1.length c84]) rfl rfl Try.underlying37 rfl (by kernel_rfl) (box_part ((HSW.below hw_).mu 0 rfl) (part_cons hc81 (part_cons hc85 part_nil)))) ?_
        exact by (
        refine blg_ 18 c78 HSW HB 0 Try.underlying3 (at39_2 (HSW.aO 3 rfl)).int ?_
        refine blg_ 20 c78 HSW HB 0 Try.underlying3 (at39_0 (HSW.aO 3 rfl)).int ?_
        refine blg_ 22 c78 HSW HB 0 Try.underlying3 (at39_1 (HSW.aO 3 rfl)).int ?_
        obtain ⟨z87, H⟩ := if_some H
        refine dg_ 23 c78 (fun _ => Run.bin rfl rfl rfl (bin_quo64 z87)) ?_
        refine dg_ 24 c78 (fun _ => Run.bin rfl rfl rfl (bin_quo64 (show (2 : Int) ≠ 0 by decide))) ?_
        exact by (
        obtain ⟨t88, ha89, H⟩ := bind_some H
        refine dcs_ HS HB 25 (w_on rfl rfl rfl c78) Try.func69 (spec_TurnsOk.calls k A79 c80 x0.f8.f0 A83 c84 x0.f8.f1 x0.f2 (wrap64 (Int.tdiv (wrap64 (Int.tdiv x0.f0 x0.f1)) 2)) t88 _ (HS.getO 1 rfl) le82 (HS.getO 0 rfl) le86 ha89) (fun w90 HS HB => ?_)
        clear ha89
        refine dp_ 26 (fun _ => Run.pickT rfl rfl c78 rfl) ?_
        refine dp_ 27 (fun _ => Run.assign rfl rfl) ?_
        refine dd_ ?_
        exact by (
        clear HB HSW
        refine via_ hK54 ?_
        clear hK54
        obtain rfl := os H
        exact rt1 Try.f24 rfl rfl hR_ ⟨rfl, HS.b⟩ ))))))))))
      clear hK45
      exact by (
      refine WC.loop (fun k_ E_ W_ => ∃ (i51 : Int), E_ = [(1, .pointer (some ⟨b2, 0, none⟩)), (4, .int .i64 i51)] ∧ (∃ o_, spec_ModelOk.l0 x0 k_ i51 = some o_ ∧ G47 o_ = some r) ∧ St (fun _ => True) w W_ [boxM b2 cs0.toArray 39] [(fun W => k48.C W A28 x0.f5.length x0.f5), (fun W => (Kd.slice 3 (Kd.int .i64)).C W A20 x0.f4.length x0.f4), (fun W => k112.C W A12 x0.f3.length x0.f3), (fun W => k39.K W x0 cs0)] []) k ⟨0, rfl, ⟨_, H, Ho50⟩, (St.pick HS (fun W_ h_ => ⟨AllF.get 0 rfl h_, AllF.get 1 rfl h_, AllF.get 2 rfl h_, AllF.get 3 rfl h_, trivial⟩) (fun W_ h_ => trivial))⟩ ⟨rfl, rfl, trivial⟩ ?_
      rintro k_ E_ w92 ⟨i51, rfl, ⟨o49, H, Ho50⟩, HS⟩
      rcases k_ with _ | k93
      · exact no_ H
      replace H : spec_ModelOk.b0 x0 (spec_ModelOk.l0 x0 k93) k93 i51 = some o49 := H
      unfold spec_ModelOk.b0 at H
      exact by (
      refine WC.seq fun _ hK94 => ?_
      refine sr_ fun _ hK95 => ?_
      refine mv_ ?_
      refine v_ (fa_ Try.underlying39) ?_
      refine v_ (lb_ (HS.mu 0 rfl) Try.underlying35 hc30) ?_
      refine ln_ Try.underlying35 ?_
      exact by (
      refine b_ bin_lss ?_
      refine dn_ hK95 ?_
      clear hK95
      rcases eti_ H with ⟨c96, H⟩ | ⟨c96, H⟩
      · refine wn_ (dF c96) ?_
        refine WC.exit ?_
        obtain rfl := os H
        exact WQ.via2 (fun _ _ h_ => h_) X52 ⟨i51, rfl, Ho50, (St.pick HS (fun W_ h_ => ⟨AllF.get 0 rfl h_, AllF.get 1 rfl h_, AllF.get 2 rfl h_, AllF.get 3 rfl h_, trivial⟩) (fun W_ h_ => trivial))⟩ ⟨rfl, rfl, trivial⟩
      exact by (
      refine wy_ (dT c96) ?_
      refine WC.skip ?_
      refine via_ hK94 ?_
      clear hK94
      refine WC.seq fun _ hK97 => ?_
      refine WC.block ?_
      exact by (
      refine WC.seq fun _ hK98 => ?_
      refine WC.drawS HS [] rfl rfl (fun w99 HS => ?_)
      have HB := Below.refl w99.heap.size w99
      have HSW := HS
      refine df_ 0 Try.underlying39 ?_
      refine dm_ 2 ?_
      exact by (
      refine df_ 5 Try.underlying39 ?_
      refine bl_ 1 HS (Below.refl _ _) 0 Try.underlying35 hc30 ?_
      obtain ⟨⟨q100, q101⟩, H⟩ := if_some H
      obtain ⟨ad102, rfl⟩ := C_open (HS.getO 0 rfl) (by omega)
      refine di_ 3 Try.underlying35 32 q100 q101 ?_
      obtain ⟨e103, el104, HS⟩ := HS.elO 0 rfl (by decide) o48 i51 q100 q101
      exact by (
      replace HS := HS.deriveO (p := (fun W => k48.K W (x0.f5.getD i51.toNat o48) e103)) (fun W_ hO_ hN_ => (AllF.get 0 rfl hO_).1)
      refine dt_ 4 (Below.refl _ _) (fun w_ hw_ => Run.loadS (cs := e103) rfl rfl Try.underlying48 rfl (by rw [el104]; kernel_rfl) ((HS.below hw_).getO 1 rfl).2) ?_
      refine bl_ 6 HS (Below.refl _ _) 0 Try.underlying3 (at39_0 (HS.aO 5 rfl)).int ?_
      obtain ⟨t105, ha106, H⟩ := bind_some H
      refine dcs_ HS HB 7 (w_none rfl) Try.func20 (spec_LayerOk.runs k93 e103 (x0.f5.getD i51.toNat o48) x0.f0 t105 _ (HS.getO 0 rfl) ha106) (fun w107 HS HB => ?_)
      clear ha106
      exact by (
      refine dp_ 8 (fun _ => Run.not rfl rfl) ?_
      refine dd_ ?_
      clear HB HSW
      refine via_ hK98 ?_
      clear hK98
      rcases eti_ H with ⟨c108, H⟩ | ⟨c108, H⟩
      · refine wy_ (nB (bF c108)) ?_
        exact by (
        refine sr_ fun _ hK109 => ?_
        refine as_ ?_
        refine dn_ hK109 ?_
        clear hK109
        refine WC.ret ?_
        obtain rfl := os H
        exact by (
        rw [hG48] at Ho50
        replace H : some _ = some _ := Ho50
        obtain rfl := os H
        exact fin1 Try.f24 rfl rfl hR_ ⟨rfl, HS.b⟩ ))
      refine wn_ (nB c108) ?_
      refine WC.skip ?_
      exact by (
      refine via_ hK97 ?_
      clear hK97
      refine rg_ ?_
      refine mv_ ?_
      refine b_ bin_add64 ?_
      refine as_ ?_
      exact by (
      refine WL.done ?_
      exact WQ.round k93 (fun _ _ h_ => h_) (Nat.lt_succ_self _) ⟨(wrap64 (i51 + 1)), rfl, ⟨_, H, Ho50⟩, (St.pick HS (fun W_ h_ => ⟨AllF.get 2 rfl h_, AllF.get 3 rfl h_, AllF.get 4 rfl h_, AllF.get 5 rfl h_, trivial⟩) (fun W_ h_ => trivial))⟩ ⟨rfl, rfl, trivial⟩ )))))))))))))
    clear hK36
    refine WC.loop (fun k_ E_ W_ => ∃ (i42 : Int), E_ = [(1, .pointer (some ⟨b2, 0, none⟩)), (3, .int .i64 i42)] ∧ (∃ o_, spec_ModelOk.l1 x0 k_ i42 = some o_ ∧ G38 o_ = some r) ∧ St (fun _ => True) w W_ [boxM b2 cs0.toArray 39] [(fun W => k48.C W A28 x0.f5.length x0.f5), (fun W => (Kd.slice 3 (Kd.int .i64)).C W A20 x0.f4.length x0.f4), (fun W => k112.C W A12 x0.f3.length x0.f3), (fun W => k39.K W x0 cs0)] []) k ⟨0, rfl, ⟨_, H, Ho41⟩, (St.pick HS (fun W_ h_ => ⟨AllF.get 0 rfl h_, AllF.get 1 rfl h_, AllF.get 2 rfl h_, AllF.get 3 rfl h_, trivial⟩) (fun W_ h_ => trivial))⟩ ⟨rfl, rfl, trivial⟩ ?_
    rintro k_ E_ w111 ⟨i42, rfl, ⟨o40, H, Ho41⟩, HS⟩
    rcases k_ with _ | k112
    · exact no_ H
    exact by (
    replace H : spec_ModelOk.b1 x0 (spec_ModelOk.l1 x0 k112) k112 i42 = some o40 := H
    unfold spec_ModelOk.b1 at H
    refine WC.seq fun _ hK113 => ?_
    refine sr_ fun _ hK114 => ?_
    refine mv_ ?_
    refine v_ (fa_ Try.underlying39) ?_
    exact by (
    refine v_ (lb_ (HS.mu 0 rfl) Try.underlying23 hc22) ?_
    refine ln_ Try.underlying23 ?_
    refine b_ bin_lss ?_
    refine dn_ hK114 ?_
    clear hK114
    rcases eti_ H with ⟨c115, H⟩ | ⟨c115, H⟩
    · refine wn_ (dF c115) ?_
      exact by (
      refine WC.exit ?_
      obtain rfl := os H
      exact WQ.via2 (fun _ _ h_ => h_) X43 ⟨i42, rfl, Ho41, (St.pick HS (fun W_ h_ => ⟨AllF.get 0 rfl h_, AllF.get 1 rfl h_, AllF.get 2 rfl h_, AllF.get 3 rfl h_, trivial⟩) (fun W_ h_ => trivial))⟩ ⟨rfl, rfl, trivial⟩ )
    refine wy_ (dT c115) ?_
    refine WC.skip ?_
    refine via_ hK113 ?_
    exact by (
    clear hK113
    refine WC.seq fun _ hK116 => ?_
    refine WC.block ?_
    refine WC.seq fun _ hK117 => ?_
    refine WC.drawS HS [] rfl rfl (fun w118 HS => ?_)
    have HB := Below.refl w118.heap.size w118
    exact by (
    have HSW := HS
    refine df_ 0 Try.underlying39 ?_
    refine dm_ 2 ?_
    refine df_ 6 Try.underlying39 ?_
    refine bl_ 1 HS (Below.refl _ _) 0 Try.underlying23 hc22 ?_
    obtain ⟨⟨q119, q120⟩, H⟩ := if_some H
    exact by (
    obtain ⟨ad121, rfl⟩ := C_open (HS.getO 1 rfl) (by omega)
    refine di_ 3 Try.underlying23 1 q119 q120 ?_
    obtain ⟨A122, c123, le124, HS⟩ := HS.slO 1 rfl i42 q119 q120
    refine dt_ 4 (Below.refl _ _) (fun w_ hw_ => Run.load rfl rfl Try.underlying25 rfl ((HS.below hw_).getO 1 rfl)) ?_
    refine dp_ 5 (fun _ => Run.len (ts := #[]) rfl Try.underlying25 rfl) ?_
    refine bl_ 7 HS (Below.refl _ _) 0 Try.underlying3 (at39_0 (HS.aO 5 rfl)).int ?_
    exact by (
    refine dp_ 8 (fun _ => Run.bin rfl rfl rfl bin_neq) ?_
    refine dm_ 9 ?_
    rcases eti_ H with ⟨c125, H⟩ | ⟨c125, H⟩
    · refine doT_ 10 (qT c125) ?_
      refine doT_ 11 (qT c125) ?_
      refine doT_ 12 (qT c125) ?_
      exact by (
      refine doT_ 13 (qT c125) ?_
      refine doT_ 14 (qT c125) ?_
      refine doT_ 15 (qT c125) ?_
      refine doT_ 16 (qT c125) ?_
      refine dp_ 17 (fun _ => Run.pickT rfl rfl (qT c125) rfl) ?_
      refine dd_ ?_
      exact by (
      clear HB HSW
      refine via_ hK117 ?_
      clear hK117
      refine wy_ rfl ?_
      refine sr_ fun _ hK131 => ?_
      refine as_ ?_
      exact by (
      refine dn_ hK131 ?_
      clear hK131
      refine WC.ret ?_
      obtain rfl := os H
      rw [hG39] at Ho41
      replace H : some _ = some _ := Ho41
      obtain rfl := os H
      exact fin1 Try.f24 rfl rfl hR_ ⟨rfl, HS.b⟩ )))
    exact by (
    refine dfg_ 10 (qF c125) Try.underlying39 ?_
    refine dg_ 12 (qF c125) (fun _ => Run.move rfl rfl) ?_
    refine blg_ 11 (qF c125) HS (Below.refl _ _) 0 Try.underlying23 hc22 ?_
    refine dg_ 13 (qF c125) (fun _ => Run.indexAddr rfl rfl rfl Try.underlying23 (sz := 1) (by kernel_rfl) q119 q120) ?_
    refine dh_ 14 (qF c125) (Below.refl _ _) (fun w_ hw_ => Run.load rfl rfl Try.underlying25 rfl ((HS.below hw_).getO 1 rfl)) ?_
    obtain ⟨t126, ha127, H⟩ := bind_some H
    exact by (
    refine dcs0_ HS HB 15 (w_on rfl rfl rfl (qF c125)) Try.func68 (spec_l05All.calls k112 A122 c123 (x0.f4.getD i42.toNat []) (-127) 127 t126 _ (HS.getO 0 rfl) le124 ha127) (fun w128 HS HB => ?_)
    clear ha127
    refine dg_ 16 (qF c125) (fun _ => Run.not rfl rfl) ?_
    refine dp_ 17 (fun _ => Run.pickF rfl rfl (qF c125) rfl) ?_
    refine dd_ ?_
    clear HB HSW
    exact by (
    refine via_ hK117 ?_
    clear hK117
    rcases eti_ H with ⟨c129, H⟩ | ⟨c129, H⟩
    · refine wy_ (nB (bF c129)) ?_
      refine sr_ fun _ hK130 => ?_
      refine as_ ?_
      exact by (
      refine dn_ hK130 ?_
      clear hK130
      refine WC.ret ?_
      obtain rfl := os H
      rw [hG39] at Ho41
      replace H : some _ = some _ := Ho41
      obtain rfl := os H
      exact fin1 Try.f24 rfl rfl hR_ ⟨rfl, HS.b⟩ )
    exact by (
    refine wn_ (nB c129) ?_
    refine WC.skip ?_
    refine via_ hK116 ?_
    clear hK116
    refine rg_ ?_
    refine mv_ ?_
    exact by (
    refine b_ bin_add64 ?_
    refine as_ ?_
    refine WL.done ?_
    exact WQ.round k112 (fun _ _ h_ => h_) (Nat.lt_succ_self _) ⟨(wrap64 (i42 + 1)), rfl, ⟨_, H, Ho41⟩, (St.pick HS (fun W_ h_ => ⟨AllF.get 2 rfl h_, AllF.get 3 rfl h_, AllF.get 4 rfl h_, AllF.get 5 rfl h_, trivial⟩) (fun W_ h_ => trivial))⟩ ⟨rfl, rfl, trivial⟩ )))))))))))))))))))
  refine dfg_ 9 (qT c11) Try.underlying39 ?_
  refine blg_ 10 (qT c11) HSW HB 0 Try.underlying3 (at39_1 (HSW.aO 0 rfl)).int ?_
  exact by (
  refine dg_ 11 (qT c11) (fun _ => Run.bin rfl rfl rfl bin_neq) ?_
  refine dg_ 12 (nB c10) (fun _ => Run.pickT rfl rfl (qT c11) rfl) ?_
  refine dp_ 13 (fun _ => Run.pickF rfl rfl (nB c10) rfl) ?_
  refine dm_ 14 ?_
  rcases eti_ H with ⟨c135, H⟩ | ⟨c135, H⟩
  · refine doT_ 15 (qT c135) ?_
    exact by (
    refine doT_ 16 (qT c135) ?_
    refine doT_ 17 (qT c135) ?_
    refine doT_ 18 (qT c135) ?_
    refine dp_ 19 (fun _ => Run.pickT rfl rfl (qT c135) rfl) ?_
    refine dm_ 20 ?_
    refine doT_ 21 rfl ?_
    exact by (
    refine doT_ 22 rfl ?_
    refine doT_ 23 rfl ?_
    refine doT_ 24 rfl ?_
    refine doT_ 25 rfl ?_
    refine doT_ 26 rfl ?_
    refine dp_ 27 (fun _ => Run.pickT rfl rfl rfl rfl) ?_
    exact by (
    refine dm_ 28 ?_
    refine doT_ 29 rfl ?_
    refine doT_ 30 rfl ?_
    refine doT_ 31 rfl ?_
    refine doT_ 32 rfl ?_
    refine doT_ 33 rfl ?_
    exact by (
    refine dp_ 34 (fun _ => Run.pickT rfl rfl rfl rfl) ?_
    refine dd_ ?_
    clear HB HSW
    refine via_ hK5 ?_
    clear hK5
    refine wy_ rfl ?_
    exact by (
    refine sr_ fun _ hK259 => ?_
    refine as_ ?_
    refine dn_ hK259 ?_
    clear hK259
    obtain rfl := os H
    exact rt1 Try.f24 rfl rfl hR_ ⟨rfl, HS.b⟩ )))))
  exact by (
  refine dfg_ 15 (qF c135) Try.underlying39 ?_
  obtain ⟨A136, c137, hc138, le139, HS⟩ := HS.sO 0 rfl at39_3
  refine blg_ 16 (qF c135) HSW HB 0 Try.underlying34 hc138 ?_
  obtain ⟨t140, ha141, H⟩ := bind_some H
  refine dcs_ HS HB 17 (w_on rfl rfl rfl (qF c135)) Try.func66 (spec_MergesOk.calls k A136 c137 x0.f3 t140 _ (HS.getO 0 rfl) le139 ha141) (fun w142 HS HB => ?_)
  clear ha141
  exact by (
  refine dg_ 18 (qF c135) (fun _ => Run.not rfl rfl) ?_
  refine dp_ 19 (fun _ => Run.pickF rfl rfl (qF c135) rfl) ?_
  refine dm_ 20 ?_
  rcases eti_ H with ⟨c143, H⟩ | ⟨c143, H⟩
  · refine doT_ 21 (nB (bF c143)) ?_
    refine doT_ 22 (nB (bF c143)) ?_
    exact by (
    refine doT_ 23 (nB (bF c143)) ?_
    refine doT_ 24 (nB (bF c143)) ?_
    refine doT_ 25 (nB (bF c143)) ?_
    refine doT_ 26 (nB (bF c143)) ?_
    refine dp_ 27 (fun _ => Run.pickT rfl rfl (nB (bF c143)) rfl) ?_
    refine dm_ 28 ?_
    exact by (
    refine doT_ 29 rfl ?_
    refine doT_ 30 rfl ?_
    refine doT_ 31 rfl ?_
    refine doT_ 32 rfl ?_
    refine doT_ 33 rfl ?_
    refine dp_ 34 (fun _ => Run.pickT rfl rfl rfl rfl) ?_
    exact by (
    refine dd_ ?_
    clear HB HSW
    refine via_ hK5 ?_
    clear hK5
    refine wy_ rfl ?_
    refine sr_ fun _ hK258 => ?_
    exact by (
    refine as_ ?_
    refine dn_ hK258 ?_
    clear hK258
    obtain rfl := os H
    exact rt1 Try.f24 rfl rfl hR_ ⟨rfl, HS.b⟩ ))))
  refine dfg_ 21 (nB c143) Try.underlying39 ?_
  exact by (
  obtain ⟨A144, c145, hc146, le147, HS⟩ := HS.sO 1 rfl at39_4
  refine blg_ 22 (nB c143) HSW HB 0 Try.underlying23 hc146 ?_
  refine dg_ 23 (nB c143) (fun _ => Run.len (ts := #[]) rfl Try.underlying23 rfl) ?_
  refine dh_ 24 (nB c143) HB (fun w_ hw_ => Run.loadS (cs := cs0) rfl rfl Try.underlying39 rfl (by rw [el0]; kernel_rfl) (box_part ((HSW.below hw_).mu 0 rfl) part_all)) ?_
  obtain ⟨t148, ha149, H⟩ := bind_some H
  refine dcs_ HS HB 25 (w_on rfl rfl rfl (nB c143)) Try.func15 (spec_Vocab.runs k cs0 x0 t148 _ (HS.getO 2 rfl) ha149) (fun w150 HS HB => ?_)
  exact by (
  clear ha149
  refine dg_ 26 (nB c143) (fun _ => Run.bin rfl rfl rfl bin_neq) ?_
  refine dp_ 27 (fun _ => Run.pickF rfl rfl (nB c143) rfl) ?_
  refine dm_ 28 ?_
  rcases eti_ H with ⟨c151, H⟩ | ⟨c151, H⟩
  · refine doT_ 29 (qT c151) ?_
    exact by (
    refine doT_ 30 (qT c151) ?_
    refine doT_ 31 (qT c151) ?_
    refine doT_ 32 (qT c151) ?_
    refine doT_ 33 (qT c151) ?_
    refine dp_ 34 (fun _ => Run.pickT rfl rfl (qT c151) rfl) ?_
    refine dd_ ?_
    exact by (
    clear HB HSW
    refine via_ hK5 ?_
    clear hK5
    refine wy_ rfl ?_
    refine sr_ fun _ hK257 => ?_
    refine as_ ?_
    exact by (
    refine dn_ hK257 ?_
    clear hK257
    obtain rfl := os H
    exact rt1 Try.f24 rfl rfl hR_ ⟨rfl, HS.b⟩ )))
  refine dfg_ 29 (qF c151) Try.underlying39 ?_
  obtain ⟨A152, c153, hc154, le155, HS⟩ := HS.sO 2 rfl at39_5
  exact by (
  refine blg_ 30 (qF c151) HSW HB 0 Try.underlying35 hc154 ?_
  refine dg_ 31 (qF c151) (fun _ => Run.len (ts := #[]) rfl Try.underlying35 rfl) ?_
  obtain ⟨t156, ha157, H⟩ := bind_some H
  refine dcs0_ HS HB 32 (w_on rfl rfl rfl (qF c151)) Try.func67 (spec_l01In.calls (x0.f5.length : Int) 1 2 t156 _ ha157) (fun w158 HS HB => ?_)
  clear ha157
  refine dg_ 33 (qF c151) (fun _ => Run.not rfl rfl) ?_
  exact by (
  refine dp_ 34 (fun _ => Run.pickF rfl rfl (qF c151) rfl) ?_
  refine dd_ ?_
  clear HB HSW
  refine via_ hK5 ?_
  clear hK5
  rcases eti_ H with ⟨c159, H⟩ | ⟨c159, H⟩
  · refine wy_ (nB (bF c159)) ?_
    exact by (
    refine sr_ fun _ hK256 => ?_
    refine as_ ?_
    refine dn_ hK256 ?_
    clear hK256
    obtain rfl := os H
    exact rt1 Try.f24 rfl rfl hR_ ⟨rfl, HS.b⟩ )
  exact by (
  refine wn_ (nB c159) ?_
  refine WC.skip ?_
  refine via_ hK4 ?_
  clear hK4
  refine WC.seq fun K160 hK160 => ?_
  refine sr_ fun _ hK161 => ?_
  exact by (
  refine as_ ?_
  refine dn_ hK161 ?_
  clear hK161
  refine WC.block ?_
  obtain ⟨G162, hG163, o164, H, Ho165⟩ := open_G H
  have X167 : ∀ E_ W_, (∃ (i166 : Int), E_ = [(1, .pointer (some ⟨b2, 0, none⟩)), (3, .int .i64 i166)] ∧ G162 (Sum.inr i166) = some r ∧ St (fun _ => True) w W_ [boxM b2 cs0.toArray 39] [(fun W => k48.C W A152 x0.f5.length x0.f5), (fun W => (Kd.slice 3 (Kd.int .i64)).C W A144 x0.f4.length x0.f4), (fun W => k112.C W A136 x0.f3.length x0.f3), (fun W => k39.K W x0 cs0)] []) → ∀ a, Fits a 108 E_ → K160 a W_ := by
    exact by (
    rintro E_ w168 ⟨i166, rfl, H, HS⟩
    rw [hG163] at H
    (try dsimp only at H)
    refine hK160 _ _ ?_
    clear hK160
    refine WC.seq fun K169 hK169 => ?_
    exact by (
    refine sr_ fun _ hK170 => ?_
    refine as_ ?_
    refine dn_ hK170 ?_
    clear hK170
    refine WC.block ?_
    obtain ⟨G171, hG172, o173, H, Ho174⟩ := open_G H
    exact by (
    have X176 : ∀ E_ W_, (∃ (i175 : Int), E_ = [(1, .pointer (some ⟨b2, 0, none⟩)), (4, .int .i64 i175)] ∧ G171 (Sum.inr i175) = some r ∧ St (fun _ => True) w W_ [boxM b2 cs0.toArray 39] [(fun W => k48.C W A152 x0.f5.length x0.f5), (fun W => (Kd.slice 3 (Kd.int .i64)).C W A144 x0.f4.length x0.f4), (fun W => k112.C W A136 x0.f3.length x0.f3), (fun W => k39.K W x0 cs0)] []) → ∀ a, Fits a 108 E_ → K169 a W_ := by
      rintro E_ w177 ⟨i175, rfl, H, HS⟩
      rw [hG172] at H
      (try dsimp only at H)
      refine hK169 _ _ ?_
      clear hK169
      exact by (
      refine WC.seq fun _ hK178 => ?_
      refine WC.drawS HS [] rfl rfl (fun w179 HS => ?_)
      have HB := Below.refl w179.heap.size w179
      have HSW := HS
      refine df_ 0 Try.underlying39 ?_
      refine df_ 2 Try.underlying39 ?_
      exact by (
      obtain ⟨A180, c181, hc182, le183, HS⟩ := HS.sO 3 rfl at39_6
      refine bl_ 1 HS (Below.refl _ _) 0 Try.underlying25 hc182 ?_
      refine bl_ 3 HS (Below.refl _ _) 0 Try.underlying3 (at39_0 (HS.aO 4 rfl)).int ?_
      obtain ⟨t184, ha185, H⟩ := bind_some H
      refine dcs0_ HS HB 4 (w_none rfl) Try.func62 (spec_GainOk.calls k A180 c181 x0.f6 x0.f0 t184 _ (HS.getO 0 rfl) le183 ha185) (fun w186 HS HB => ?_)
      clear ha185
      exact by (
      refine dm_ 5 ?_
      rcases eti_ H with ⟨c187, H⟩ | ⟨c187, H⟩
      · refine doF_ 6 (bF c187) ?_
        refine doF_ 7 (bF c187) ?_
        refine doF_ 8 (bF c187) ?_
        refine doF_ 9 (bF c187) ?_
        exact by (
        refine doF_ 10 (bF c187) ?_
        refine doF_ 11 (bF c187) ?_
        refine doF_ 12 (bF c187) ?_
        refine dp_ 13 (fun _ => Run.pickF rfl rfl (bF c187) rfl) ?_
        refine dm_ 14 ?_
        refine doF_ 15 rfl ?_
        exact by (
        refine doF_ 16 rfl ?_
        refine doF_ 17 rfl ?_
        refine doF_ 18 rfl ?_
        refine doF_ 19 rfl ?_
        refine doF_ 20 rfl ?_
        refine doF_ 21 rfl ?_
        exact by (
        refine doF_ 22 rfl ?_
        refine doF_ 23 rfl ?_
        refine doF_ 24 rfl ?_
        refine doF_ 25 rfl ?_
        refine dp_ 26 (fun _ => Run.pickF rfl rfl rfl rfl) ?_
        refine dp_ 27 (fun _ => Run.assign rfl rfl) ?_
        exact by (
        refine dd_ ?_
        clear HB HSW
        refine via_ hK178 ?_
        clear hK178
        obtain rfl := os H
        exact rt1 Try.f24 rfl rfl hR_ ⟨rfl, HS.b⟩ ))))
      exact by (
      refine dfg_ 6 c187 Try.underlying39 ?_
      refine dfg_ 8 c187 Try.underlying39 ?_
      obtain ⟨A188, c189, hc190, le191, HS⟩ := HS.sO 4 rfl at39_8
      obtain ⟨A192, c193, hc194, le195, HS⟩ := HS.sO 5 rfl at39_9
      refine dh_ 7 c187 HB (fun w_ hw_ => Run.loadS (cs := [.int .i64 x0.f7.f0, .slice A188 x0.f7.f1.length c189, .slice A192 x0.f7.f2.length c193, .int .i64 x0.f7.f3, .int .i64 x0.f7.f4]) rfl rfl Try.underlying36 rfl (by kernel_rfl) (box_part ((HSW.below hw_).mu 0 rfl) (part_cons (at39_7 ((HSW.below hw_).aO 3 rfl)).int (part_cons hc190 (part_cons hc194 (part_cons (at39_10 ((HSW.below hw_).aO 3 rfl)).int (part_cons (at39_11 ((HSW.below hw_).aO 3 rfl)).int part_nil))))))) ?_
      refine blg_ 9 c187 HSW HB 0 Try.underlying3 (at39_0 (HSW.aO 3 rfl)).int ?_
      exact by (
      refine dh_ 10 c187 HB (fun w_ hw_ => Run.loadS (cs := cs0) rfl rfl Try.underlying39 rfl (by rw [el0]; kernel_rfl) (box_part ((HSW.below hw_).mu 0 rfl) part_all)) ?_
      obtain ⟨t196, ha197, H⟩ := bind_some H
      refine dcs_ HS HB 11 (w_on rfl rfl rfl c187) Try.func15 (spec_Vocab.runs k cs0 x0 t196 _ (HS.getO 6 rfl) ha197) (fun w198 HS HB => ?_)
      clear ha197
      obtain ⟨t199, ha200, H⟩ := bind_some H
      refine dcs_ HS HB 12 (w_on rfl rfl rfl c187) Try.func63 (spec_l10Matrix.runs k x0.f7 A188 c189 A192 c193 x0.f0 t196 t199 _ (HS.getO 1 rfl) le191 (HS.getO 0 rfl) le195 ha200) (fun w201 HS HB => ?_)
      exact by (
      clear ha200
      refine dp_ 13 (fun _ => Run.pickT rfl rfl c187 rfl) ?_
      refine dm_ 14 ?_
      rcases eti_ H with ⟨c202, H⟩ | ⟨c202, H⟩
      · refine doF_ 15 (bF c202) ?_
        refine doF_ 16 (bF c202) ?_
        exact by (
        refine doF_ 17 (bF c202) ?_
        refine doF_ 18 (bF c202) ?_
        refine doF_ 19 (bF c202) ?_
        refine doF_ 20 (bF c202) ?_
        refine doF_ 21 (bF c202) ?_
        refine doF_ 22 (bF c202) ?_
        exact by (
        refine doF_ 23 (bF c202) ?_
        refine doF_ 24 (bF c202) ?_
        refine doF_ 25 (bF c202) ?_
        refine dp_ 26 (fun _ => Run.pickF rfl rfl (bF c202) rfl) ?_
        refine dp_ 27 (fun _ => Run.assign rfl rfl) ?_
        refine dd_ ?_
        exact by (
        clear HB HSW
        refine via_ hK178 ?_
        clear hK178
        obtain rfl := os H
        exact rt1 Try.f24 rfl rfl hR_ ⟨rfl, HS.b⟩ )))
      refine dfg_ 15 c202 Try.underlying39 ?_
      exact by (
      refine dfg_ 17 c202 Try.underlying39 ?_
      refine dfg_ 19 c202 Try.underlying39 ?_
      refine dfg_ 21 c202 Try.underlying39 ?_
      obtain ⟨A203, c204, hc205, le206, HS⟩ := HS.sO 6 rfl at39_12
      obtain ⟨A207, c208, hc209, le210, HS⟩ := HS.sO 7 rfl at39_13
      refine dh_ 16 c202 HB (fun w_ hw_ => Run.loadS (cs := [.slice A203 x0.f8.f0.length c204, .slice A207 x0.f8.f1.length c208]) rfl rfl Try.underlying37 rfl (by kernel_rfl) (box_part ((HSW.below hw_).mu 0 rfl) (part_cons hc205 (part_cons hc209 part_nil)))) ?_
      exact by (
      refine blg_ 18 c202 HSW HB 0 Try.underlying3 (at39_2 (HSW.aO 3 rfl)).int ?_
      refine blg_ 20 c202 HSW HB 0 Try.underlying3 (at39_0 (HSW.aO 3 rfl)).int ?_
      refine blg_ 22 c202 HSW HB 0 Try.underlying3 (at39_1 (HSW.aO 3 rfl)).int ?_
      obtain ⟨z211, H⟩ := if_some H
      refine dg_ 23 c202 (fun _ => Run.bin rfl rfl rfl (bin_quo64 z211)) ?_
      refine dg_ 24 c202 (fun _ => Run.bin rfl rfl rfl (bin_quo64 (show (2 : Int) ≠ 0 by decide))) ?_
      exact by (
      obtain ⟨t212, ha213, H⟩ := bind_some H
      refine dcs_ HS HB 25 (w_on rfl rfl rfl c202) Try.func69 (spec_TurnsOk.calls k A203 c204 x0.f8.f0 A207 c208 x0.f8.f1 x0.f2 (wrap64 (Int.tdiv (wrap64 (Int.tdiv x0.f0 x0.f1)) 2)) t212 _ (HS.getO 1 rfl) le206 (HS.getO 0 rfl) le210 ha213) (fun w214 HS HB => ?_)
      clear ha213
      refine dp_ 26 (fun _ => Run.pickT rfl rfl c202 rfl) ?_
      refine dp_ 27 (fun _ => Run.assign rfl rfl) ?_
      refine dd_ ?_
      exact by (
      clear HB HSW
      refine via_ hK178 ?_
      clear hK178
      obtain rfl := os H
      exact rt1 Try.f24 rfl rfl hR_ ⟨rfl, HS.b⟩ ))))))))))
    clear hK169
    exact by (
    refine WC.loop (fun k_ E_ W_ => ∃ (i175 : Int), E_ = [(1, .pointer (some ⟨b2, 0, none⟩)), (4, .int .i64 i175)] ∧ (∃ o_, spec_ModelOk.l2 x0 k_ i175 = some o_ ∧ G171 o_ = some r) ∧ St (fun _ => True) w W_ [boxM b2 cs0.toArray 39] [(fun W => k48.C W A152 x0.f5.length x0.f5), (fun W => (Kd.slice 3 (Kd.int .i64)).C W A144 x0.f4.length x0.f4), (fun W => k112.C W A136 x0.f3.length x0.f3), (fun W => k39.K W x0 cs0)] []) k ⟨0, rfl, ⟨_, H, Ho174⟩, (St.pick HS (fun W_ h_ => ⟨AllF.get 0 rfl h_, AllF.get 1 rfl h_, AllF.get 2 rfl h_, AllF.get 3 rfl h_, trivial⟩) (fun W_ h_ => trivial))⟩ ⟨rfl, rfl, trivial⟩ ?_
    rintro k_ E_ w216 ⟨i175, rfl, ⟨o173, H, Ho174⟩, HS⟩
    rcases k_ with _ | k217
    · exact no_ H
    replace H : spec_ModelOk.b2 x0 (spec_ModelOk.l2 x0 k217) k217 i175 = some o173 := H
    unfold spec_ModelOk.b2 at H
    exact by (
    refine WC.seq fun _ hK218 => ?_
    refine sr_ fun _ hK219 => ?_
    refine mv_ ?_
    refine v_ (fa_ Try.underlying39) ?_
    refine v_ (lb_ (HS.mu 0 rfl) Try.underlying35 hc154) ?_
    refine ln_ Try.underlying35 ?_
    exact by (
    refine b_ bin_lss ?_
    refine dn_ hK219 ?_
    clear hK219
    rcases eti_ H with ⟨c220, H⟩ | ⟨c220, H⟩
    · refine wn_ (dF c220) ?_
      refine WC.exit ?_
      obtain rfl := os H
      exact WQ.via2 (fun _ _ h_ => h_) X176 ⟨i175, rfl, Ho174, (St.pick HS (fun W_ h_ => ⟨AllF.get 0 rfl h_, AllF.get 1 rfl h_, AllF.get 2 rfl h_, AllF.get 3 rfl h_, trivial⟩) (fun W_ h_ => trivial))⟩ ⟨rfl, rfl, trivial⟩
    exact by (
    refine wy_ (dT c220) ?_
    refine WC.skip ?_
    refine via_ hK218 ?_
    clear hK218
    refine WC.seq fun _ hK221 => ?_
    refine WC.block ?_
    exact by (
    refine WC.seq fun _ hK222 => ?_
    refine WC.drawS HS [] rfl rfl (fun w223 HS => ?_)
    have HB := Below.refl w223.heap.size w223
    have HSW := HS
    refine df_ 0 Try.underlying39 ?_
    refine dm_ 2 ?_
    exact by (
    refine df_ 5 Try.underlying39 ?_
    refine bl_ 1 HS (Below.refl _ _) 0 Try.underlying35 hc154 ?_
    obtain ⟨⟨q224, q225⟩, H⟩ := if_some H
    obtain ⟨ad226, rfl⟩ := C_open (HS.getO 0 rfl) (by omega)
    refine di_ 3 Try.underlying35 32 q224 q225 ?_
    obtain ⟨e227, el228, HS⟩ := HS.elO 0 rfl (by decide) o48 i175 q224 q225
    exact by (
    replace HS := HS.deriveO (p := (fun W => k48.K W (x0.f5.getD i175.toNat o48) e227)) (fun W_ hO_ hN_ => (AllF.get 0 rfl hO_).1)
    refine dt_ 4 (Below.refl _ _) (fun w_ hw_ => Run.loadS (cs := e227) rfl rfl Try.underlying48 rfl (by rw [el228]; kernel_rfl) ((HS.below hw_).getO 1 rfl).2) ?_
    refine bl_ 6 HS (Below.refl _ _) 0 Try.underlying3 (at39_0 (HS.aO 5 rfl)).int ?_
    obtain ⟨t229, ha230, H⟩ := bind_some H
    refine dcs_ HS HB 7 (w_none rfl) Try.func20 (spec_LayerOk.runs k217 e227 (x0.f5.getD i175.toNat o48) x0.f0 t229 _ (HS.getO 0 rfl) ha230) (fun w231 HS HB => ?_)
    clear ha230
    exact by (
    refine dp_ 8 (fun _ => Run.not rfl rfl) ?_
    refine dd_ ?_
    clear HB HSW
    refine via_ hK222 ?_
    clear hK222
    rcases eti_ H with ⟨c232, H⟩ | ⟨c232, H⟩
    · refine wy_ (nB (bF c232)) ?_
      exact by (
      refine sr_ fun _ hK233 => ?_
      refine as_ ?_
      refine dn_ hK233 ?_
      clear hK233
      refine WC.ret ?_
      obtain rfl := os H
      exact by (
      rw [hG172] at Ho174
      replace H : some _ = some _ := Ho174
      obtain rfl := os H
      exact fin1 Try.f24 rfl rfl hR_ ⟨rfl, HS.b⟩ ))
    refine wn_ (nB c232) ?_
    refine WC.skip ?_
    exact by (
    refine via_ hK221 ?_
    clear hK221
    refine rg_ ?_
    refine mv_ ?_
    refine b_ bin_add64 ?_
    refine as_ ?_
    exact by (
    refine WL.done ?_
    exact WQ.round k217 (fun _ _ h_ => h_) (Nat.lt_succ_self _) ⟨(wrap64 (i175 + 1)), rfl, ⟨_, H, Ho174⟩, (St.pick HS (fun W_ h_ => ⟨AllF.get 2 rfl h_, AllF.get 3 rfl h_, AllF.get 4 rfl h_, AllF.get 5 rfl h_, trivial⟩) (fun W_ h_ => trivial))⟩ ⟨rfl, rfl, trivial⟩ )))))))))))))
  clear hK160
  refine WC.loop (fun k_ E_ W_ => ∃ (i166 : Int), E_ = [(1, .pointer (some ⟨b2, 0, none⟩)), (3, .int .i64 i166)] ∧ (∃ o_, spec_ModelOk.l3 x0 k_ i166 = some o_ ∧ G162 o_ = some r) ∧ St (fun _ => True) w W_ [boxM b2 cs0.toArray 39] [(fun W => k48.C W A152 x0.f5.length x0.f5), (fun W => (Kd.slice 3 (Kd.int .i64)).C W A144 x0.f4.length x0.f4), (fun W => k112.C W A136 x0.f3.length x0.f3), (fun W => k39.K W x0 cs0)] []) k ⟨0, rfl, ⟨_, H, Ho165⟩, (St.pick HS (fun W_ h_ => ⟨AllF.get 0 rfl h_, AllF.get 1 rfl h_, AllF.get 2 rfl h_, AllF.get 3 rfl h_, trivial⟩) (fun W_ h_ => trivial))⟩ ⟨rfl, rfl, trivial⟩ ?_
  rintro k_ E_ w235 ⟨i166, rfl, ⟨o164, H, Ho165⟩, HS⟩
  rcases k_ with _ | k236
  · exact no_ H
  exact by (
  replace H : spec_ModelOk.b3 x0 (spec_ModelOk.l3 x0 k236) k236 i166 = some o164 := H
  unfold spec_ModelOk.b3 at H
  refine WC.seq fun _ hK237 => ?_
  refine sr_ fun _ hK238 => ?_
  refine mv_ ?_
  refine v_ (fa_ Try.underlying39) ?_
  exact by (
  refine v_ (lb_ (HS.mu 0 rfl) Try.underlying23 hc146) ?_
  refine ln_ Try.underlying23 ?_
  refine b_ bin_lss ?_
  refine dn_ hK238 ?_
  clear hK238
  rcases eti_ H with ⟨c239, H⟩ | ⟨c239, H⟩
  · refine wn_ (dF c239) ?_
    exact by (
    refine WC.exit ?_
    obtain rfl := os H
    exact WQ.via2 (fun _ _ h_ => h_) X167 ⟨i166, rfl, Ho165, (St.pick HS (fun W_ h_ => ⟨AllF.get 0 rfl h_, AllF.get 1 rfl h_, AllF.get 2 rfl h_, AllF.get 3 rfl h_, trivial⟩) (fun W_ h_ => trivial))⟩ ⟨rfl, rfl, trivial⟩ )
  refine wy_ (dT c239) ?_
  refine WC.skip ?_
  refine via_ hK237 ?_
  exact by (
  clear hK237
  refine WC.seq fun _ hK240 => ?_
  refine WC.block ?_
  refine WC.seq fun _ hK241 => ?_
  refine WC.drawS HS [] rfl rfl (fun w242 HS => ?_)
  have HB := Below.refl w242.heap.size w242
  exact by (
  have HSW := HS
  refine df_ 0 Try.underlying39 ?_
  refine dm_ 2 ?_
  refine df_ 6 Try.underlying39 ?_
  refine bl_ 1 HS (Below.refl _ _) 0 Try.underlying23 hc146 ?_
  obtain ⟨⟨q243, q244⟩, H⟩ := if_some H
  exact by (
  obtain ⟨ad245, rfl⟩ := C_open (HS.getO 1 rfl) (by omega)
  refine di_ 3 Try.underlying23 1 q243 q244 ?_
  obtain ⟨A246, c247, le248, HS⟩ := HS.slO 1 rfl i166 q243 q244
  refine dt_ 4 (Below.refl _ _) (fun w_ hw_ => Run.load rfl rfl Try.underlying25 rfl ((HS.below hw_).getO 1 rfl)) ?_
  refine dp_ 5 (fun _ => Run.len (ts := #[]) rfl Try.underlying25 rfl) ?_
  refine bl_ 7 HS (Below.refl _ _) 0 Try.underlying3 (at39_0 (HS.aO 5 rfl)).int ?_
  exact by (
  refine dp_ 8 (fun _ => Run.bin rfl rfl rfl bin_neq) ?_
  refine dm_ 9 ?_
  rcases eti_ H with ⟨c249, H⟩ | ⟨c249, H⟩
  · refine doT_ 10 (qT c249) ?_
    refine doT_ 11 (qT c249) ?_
    refine doT_ 12 (qT c249) ?_
    exact by (
    refine doT_ 13 (qT c249) ?_
    refine doT_ 14 (qT c249) ?_
    refine doT_ 15 (qT c249) ?_
    refine doT_ 16 (qT c249) ?_
    refine dp_ 17 (fun _ => Run.pickT rfl rfl (qT c249) rfl) ?_
    refine dd_ ?_
    exact by (
    clear HB HSW
    refine via_ hK241 ?_
    clear hK241
    refine wy_ rfl ?_
    refine sr_ fun _ hK255 => ?_
    refine as_ ?_
    exact by (
    refine dn_ hK255 ?_
    clear hK255
    refine WC.ret ?_
    obtain rfl := os H
    rw [hG163] at Ho165
    replace H : some _ = some _ := Ho165
    obtain rfl := os H
    exact fin1 Try.f24 rfl rfl hR_ ⟨rfl, HS.b⟩ )))
  exact by (
  refine dfg_ 10 (qF c249) Try.underlying39 ?_
  refine dg_ 12 (qF c249) (fun _ => Run.move rfl rfl) ?_
  refine blg_ 11 (qF c249) HS (Below.refl _ _) 0 Try.underlying23 hc146 ?_
  refine dg_ 13 (qF c249) (fun _ => Run.indexAddr rfl rfl rfl Try.underlying23 (sz := 1) (by kernel_rfl) q243 q244) ?_
  refine dh_ 14 (qF c249) (Below.refl _ _) (fun w_ hw_ => Run.load rfl rfl Try.underlying25 rfl ((HS.below hw_).getO 1 rfl)) ?_
  obtain ⟨t250, ha251, H⟩ := bind_some H
  exact by (
  refine dcs0_ HS HB 15 (w_on rfl rfl rfl (qF c249)) Try.func68 (spec_l05All.calls k236 A246 c247 (x0.f4.getD i166.toNat []) (-127) 127 t250 _ (HS.getO 0 rfl) le248 ha251) (fun w252 HS HB => ?_)
  clear ha251
  refine dg_ 16 (qF c249) (fun _ => Run.not rfl rfl) ?_
  refine dp_ 17 (fun _ => Run.pickF rfl rfl (qF c249) rfl) ?_
  refine dd_ ?_
  clear HB HSW
  exact by (
  refine via_ hK241 ?_
  clear hK241
  rcases eti_ H with ⟨c253, H⟩ | ⟨c253, H⟩
  · refine wy_ (nB (bF c253)) ?_
    refine sr_ fun _ hK254 => ?_
    refine as_ ?_
    exact by (
    refine dn_ hK254 ?_
    clear hK254
    refine WC.ret ?_
    obtain rfl := os H
    rw [hG163] at Ho165
    replace H : some _ = some _ := Ho165
    obtain rfl := os H
    exact fin1 Try.f24 rfl rfl hR_ ⟨rfl, HS.b⟩ )
  exact by (
  refine wn_ (nB c253) ?_
  refine WC.skip ?_
  refine via_ hK240 ?_
  clear hK240
  refine rg_ ?_
  refine mv_ ?_
  exact by (
  refine b_ bin_add64 ?_
  refine as_ ?_
  refine WL.done ?_
  exact WQ.round k236 (fun _ _ h_ => h_) (Nat.lt_succ_self _) ⟨(wrap64 (i166 + 1)), rfl, ⟨_, H, Ho165⟩, (St.pick HS (fun W_ h_ => ⟨AllF.get 2 rfl h_, AllF.get 3 rfl h_, AllF.get 4 rfl h_, AllF.get 5 rfl h_, trivial⟩) (fun W_ h_ => trivial))⟩ ⟨rfl, rfl, trivial⟩ ))))))))))))))))))))))))
def spec_l10Matrices.b0 (x0 : S39) (rec_ : (List S36) → Int → Option ((List S36) × Int)) (k38 : Nat) (xs13 : List S36) (i16 : Int) : Option ((List S36) × Int) := (if i16 < (x0.f5.length : Int) then (if 0 ≤ i16 ∧ i16 < (x0.f5.length : Int) then (if (xs13.length) < 4294967296 then (rec_ (xs13 ++ [(x0.f5.getD i16.toNat o48).f1, (x0.f5.getD i16.toNat o48).f2, (x0.f5.getD i16.toNat o48).f3, (x0.f5.getD i16.toNat o48).f4, (x0.f5.getD i16.toNat o48).f6, (x0.f5.getD i16.toNat o48).f7]) (wrap64 (i16 + 1))) else none) else none) else (some (xs13, i16)))
def spec_l10Matrices.l0 (x0 : S39) : Nat → (List S36) → Int → Option ((List S36) × Int)
  | 0, _, _ => none
  | k + 1, xs13, i16 => spec_l10Matrices.b0 x0 (spec_l10Matrices.l0 x0 k) k xs13 i16
def spec_l10Matrices.g (k : Nat) (x0 : S39) : Option (List S36) := ((spec_l10Matrices.l0 x0 k ([] : List S36) 0).bind (fun o36 => (if (o36.1.length) < 4294967296 then (some (o36.1 ++ [x0.f7])) else none)))
theorem spec_l10Matrices.runs (k : Nat) (cs0 : List Value) (x0 : S39) (r : List S36) (ok : Nat → Prop) (w : World) (hk0 : Foot (fun W => k39.K W x0 cs0) w ok) (H : spec_l10Matrices.g k x0 = some r) :
    Calls Try.prog 85 #[.agg cs0.toArray] w fun e w' => ∃ (A0_ : Option Addr) (c0_ : Nat), e = .returned (.slice A0_ r.length c0_) ∧ r.length ≤ c0_ ∧ Foot (fun W => k36.C W A0_ r.length r) w' (fun k_ => ok k_ ∨ w.heap.size ≤ k_) ∧ Below w.heap.size w w' := by
  have el0 : cs0.length = 14 := k39.K_len hk0.now
  unfold spec_l10Matrices.g at H
  have HS : St ok w w [] [(fun W => k39.K W x0 cs0)] [] := St.start (foot_cons hk0 foot_nil)
  refine cw_ (n := 39) Try.func85 fun R_ hR_ => ?_
  refine sr_ fun _ hK1 => ?_
  refine bo_ HS (fun b2 w3 hb2 HS => ?_)
  exact by (
  refine as_ ?_
  refine dn_ hK1 ?_
  clear hK1
  refine sr_ fun _ hK4 => ?_
  refine WL.lit0 HS rfl rfl (by decide) rfl Try.underlying87 (sz := 5) (by kernel_rfl) (fun v5 w6 HS => ?_)
  replace HS := HS.deriveO (p := (fun W => Reps (k36.K W) k36.sz ([] : List S36) [])) (fun _ _ _ => Reps.none _ _)
  exact by (
  refine as_ ?_
  refine dn_ hK4 ?_
  clear hK4
  refine WC.seq fun K7 hK7 => ?_
  refine sr_ fun _ hK8 => ?_
  refine as_ ?_
  exact by (
  refine dn_ hK8 ?_
  clear hK8
  refine WC.block ?_
  obtain ⟨G9, hG10, o11, H, Ho12⟩ := open_G H
  have X17 : ∀ E_ W_, (∃ (xs13 : List S36) (v14 : Value) (I15 : List Value) (i16 : Int), E_ = [(1, .pointer (some ⟨b2, 0, none⟩)), (3, v14), (4, .int .i64 i16)] ∧ G9 (xs13, i16) = some r ∧ St ok w W_ [rowM w.heap.size 36 5 v14 xs13.length I15, boxM b2 cs0.toArray 39] [(fun W => Reps (k36.K W) k36.sz xs13 I15), (fun W => k39.K W x0 cs0)] []) → ∀ a, Fits a 39 E_ → K7 a W_ := by
    rintro E_ w18 ⟨xs13, v14, I15, i16, rfl, H, HS⟩
    exact by (
    rw [hG10] at H
    (try dsimp only at H)
    refine hK7 _ _ ?_
    clear hK7
    refine sr_ fun _ hK19 => ?_
    refine mv_ ?_
    exact by (
    refine v_ (fa_ Try.underlying39) ?_
    obtain ⟨A20, c21, hc22, le23, HS⟩ := HS.sO 1 rfl at39_8
    obtain ⟨A24, c25, hc26, le27, HS⟩ := HS.sO 2 rfl at39_9
    refine v_ (ls_ (HS.mu 1 rfl) Try.underlying36 (part_cons (at39_7 (HS.aO 3 rfl)).int (part_cons hc22 (part_cons hc26 (part_cons (at39_10 (HS.aO 3 rfl)).int (part_cons (at39_11 (HS.aO 3 rfl)).int part_nil)))))) ?_
    refine WL.val rfl rfl (by decide) (Run.lit1 (z := (.agg #[.int .i64 0, .slice none 0 0, .slice none 0 0, .int .i64 0, .int .i64 0])) (vs := [.int .i64 x0.f7.f0, .slice A20 x0.f7.f1.length c21, .slice A24 x0.f7.f2.length c25, .int .i64 x0.f7.f3, .int .i64 x0.f7.f4]) rfl rfl rfl Try.underlying87 (by kernel_rfl) (Nat.le_of_ble_eq_true rfl) (Nat.le_of_ble_eq_true rfl)) ?_
    have HS1 := HS.below (below_alloc (Below.refl _ _) (.cells #[.int .i64 x0.f7.f0, .slice A20 x0.f7.f1.length c21, .slice A24 x0.f7.f2.length c25, .int .i64 x0.f7.f3, .int .i64 x0.f7.f4] 36))
    exact by (
    obtain ⟨q28, H⟩ := if_some H
    refine WL.append HS1 0 rfl rfl rfl (by decide) rfl (.agg #[.int .i64 0, .slice none 0 0, .slice none 0 0, .int .i64 0, .int .i64 0]) 72 Try.underlying87 (by kernel_rfl) rfl (by decide) (by decide) rfl rfl [.int .i64 x0.f7.f0, .slice A20 x0.f7.f1.length c21, .slice A24 x0.f7.f2.length c25, .int .i64 x0.f7.f3, .int .i64 x0.f7.f4] rfl (lit_news _ _ _) (one_cons rfl (one_cons rfl (one_cons rfl (one_cons rfl (one_cons rfl one_nil))))) (by omega) ((xs13 ++ [x0.f7]).length) (by simp) (fun v29 w30 I31 hI32 HS => ?_)
    dsimp only [List.set] at HS
    replace HS := HS.deriveO (p := (fun W => Reps (k36.K W) k36.sz (xs13 ++ [x0.f7]) I31)) (fun W_ hO_ hN_ => reps_snoc hI32 (AllF.get 2 rfl hO_) (k36_mk _ x0.f7 (le23) (AllF.get 1 rfl hO_) (le27) (AllF.get 0 rfl hO_)))
    clear HS1
    refine as_ ?_
    exact by (
    refine dn_ hK19 ?_
    clear hK19
    refine WC.ret ?_
    obtain ⟨A33, c34, rfl⟩ := row_slice (HS.mu 0 rfl)
    have le35 := row_le (HS.mu 0 rfl)
    replace HS := HS.freezeO 0 (p := (fun W => k36.C W A33 ((xs13 ++ [x0.f7])).length ((xs13 ++ [x0.f7])))) rfl (fun W_ hm_ h_ => row_C (by rfl) hm_ (AllF.get 0 rfl h_))
    exact by (
    dsimp only [List.eraseIdx] at HS
    obtain rfl := os H
    exact fin1 Try.f85 rfl rfl hR_ ⟨_, _, rfl, le35, (foot_old (HS.footO 0 rfl)), HS.b⟩ )))))
  clear hK7
  refine WC.loop (fun k_ E_ W_ => ∃ (xs13 : List S36) (v14 : Value) (I15 : List Value) (i16 : Int), E_ = [(1, .pointer (some ⟨b2, 0, none⟩)), (3, v14), (4, .int .i64 i16)] ∧ (∃ o_, spec_l10Matrices.l0 x0 k_ xs13 i16 = some o_ ∧ G9 o_ = some r) ∧ St ok w W_ [rowM w.heap.size 36 5 v14 xs13.length I15, boxM b2 cs0.toArray 39] [(fun W => Reps (k36.K W) k36.sz xs13 I15), (fun W => k39.K W x0 cs0)] []) k ⟨([] : List S36), v5, ([]), 0, rfl, ⟨_, H, Ho12⟩, (St.pick HS (fun W_ h_ => ⟨AllF.get 0 rfl h_, AllF.get 1 rfl h_, trivial⟩) (fun W_ h_ => trivial))⟩ ⟨rfl, rfl, rfl, trivial⟩ ?_
  rintro k_ E_ w37 ⟨xs13, v14, I15, i16, rfl, ⟨o11, H, Ho12⟩, HS⟩
  exact by (
  rcases k_ with _ | k38
  · exact no_ H
  replace H : spec_l10Matrices.b0 x0 (spec_l10Matrices.l0 x0 k38) k38 xs13 i16 = some o11 := H
  unfold spec_l10Matrices.b0 at H
  refine WC.seq fun _ hK39 => ?_
  refine sr_ fun _ hK40 => ?_
  exact by (
  refine mv_ ?_
  refine v_ (fa_ Try.underlying39) ?_
  obtain ⟨A41, c42, hc43, le44, HS⟩ := HS.sO 1 rfl at39_5
  refine v_ (lb_ (HS.mu 1 rfl) Try.underlying35 hc43) ?_
  refine ln_ Try.underlying35 ?_
  refine b_ bin_lss ?_
  exact by (
  refine dn_ hK40 ?_
  clear hK40
  rcases eti_ H with ⟨c45, H⟩ | ⟨c45, H⟩
  · refine wn_ (dF c45) ?_
    refine WC.exit ?_
    obtain rfl := os H
    exact WQ.via2 (fun _ _ h_ => h_) X17 ⟨xs13, v14, I15, i16, rfl, Ho12, (St.pick HS (fun W_ h_ => ⟨AllF.get 1 rfl h_, AllF.get 2 rfl h_, trivial⟩) (fun W_ h_ => trivial))⟩ ⟨rfl, rfl, rfl, trivial⟩
  exact by (
  refine wy_ (dT c45) ?_
  refine WC.skip ?_
  refine via_ hK39 ?_
  clear hK39
  refine WC.seq fun _ hK46 => ?_
  refine WC.block ?_
  exact by (
  refine sr_ fun _ hK47 => ?_
  refine v_ (fa_ Try.underlying39) ?_
  refine v_ (lb_ (HS.mu 1 rfl) Try.underlying35 hc43) ?_
  refine mv_ ?_
  obtain ⟨⟨q48, q49⟩, H⟩ := if_some H
  obtain ⟨ad50, rfl⟩ := C_open (HS.getO 0 rfl) (by omega)
  exact by (
  refine v_ (ia_ Try.underlying35 32 q48 q49) ?_
  obtain ⟨e51, el52, HS⟩ := HS.elO 0 rfl (by decide) o48 i16 q48 q49
  replace HS := HS.deriveO (p := (fun W => k48.K W (x0.f5.getD i16.toNat o48) e51)) (fun W_ hO_ hN_ => (AllF.get 0 rfl hO_).1)
  refine v_ (Run.loadS (cs := e51) rfl rfl Try.underlying48 rfl (by rw [el52]; kernel_rfl) (HS.getO 1 rfl).2) ?_
  refine WL.alloc HS (v := .agg #[.slice none 0 0, .int .i64 0, .slice none 0 0, .slice none 0 0, .int .i64 0, .int .i64 0, .int .i64 0, .slice none 0 0, .slice none 0 0, .int .i64 0, .int .i64 0, .int .i64 0, .slice none 0 0, .slice none 0 0, .int .i64 0, .int .i64 0, .int .i64 0, .slice none 0 0, .slice none 0 0, .int .i64 0, .int .i64 0, .slice none 0 0, .int .i64 0, .slice none 0 0, .slice none 0 0, .int .i64 0, .int .i64 0, .int .i64 0, .slice none 0 0, .slice none 0 0, .int .i64 0, .int .i64 0]) (cs := #[.slice none 0 0, .int .i64 0, .slice none 0 0, .slice none 0 0, .int .i64 0, .int .i64 0, .int .i64 0, .slice none 0 0, .slice none 0 0, .int .i64 0, .int .i64 0, .int .i64 0, .slice none 0 0, .slice none 0 0, .int .i64 0, .int .i64 0, .int .i64 0, .slice none 0 0, .slice none 0 0, .int .i64 0, .int .i64 0, .slice none 0 0, .int .i64 0, .slice none 0 0, .slice none 0 0, .int .i64 0, .int .i64 0, .int .i64 0, .slice none 0 0, .slice none 0 0, .int .i64 0, .int .i64 0]) rfl rfl (by decide) rfl (by kernel_rfl) rfl (fun b53 w54 hb53 HS => ?_)
  refine WL.storeS HS 0 rfl rfl rfl rfl rfl rfl (Kd.K_one _ (HS.getO 0 rfl)) (by rw [el52]; kernel_rfl) (by rw [el52]; decide) (splice_all (by rw [el52]; rfl)) (fun w55 HS => ?_)
  exact by (
  dsimp only [List.set] at HS
  refine dn_ hK47 ?_
  clear hK47
  refine rg_ ?_
  refine mv_ ?_
  refine v_ (fa_ Try.underlying48) ?_
  exact by (
  obtain ⟨A56, c57, hc58, le59, HS⟩ := HS.sO 0 rfl at48_2
  obtain ⟨A60, c61, hc62, le63, HS⟩ := HS.sO 1 rfl at48_3
  refine v_ (ls_ (HS.mu 0 rfl) Try.underlying36 (part_cons (at48_1 (HS.aO 2 rfl)).int (part_cons hc58 (part_cons hc62 (part_cons (at48_4 (HS.aO 2 rfl)).int (part_cons (at48_5 (HS.aO 2 rfl)).int part_nil)))))) ?_
  refine v_ (fa_ Try.underlying48) ?_
  obtain ⟨A64, c65, hc66, le67, HS⟩ := HS.sO 2 rfl at48_7
  obtain ⟨A68, c69, hc70, le71, HS⟩ := HS.sO 3 rfl at48_8
  exact by (
  refine v_ (ls_ (HS.mu 0 rfl) Try.underlying36 (part_cons (at48_6 (HS.aO 4 rfl)).int (part_cons hc66 (part_cons hc70 (part_cons (at48_9 (HS.aO 4 rfl)).int (part_cons (at48_10 (HS.aO 4 rfl)).int part_nil)))))) ?_
  refine v_ (fa_ Try.underlying48) ?_
  obtain ⟨A72, c73, hc74, le75, HS⟩ := HS.sO 4 rfl at48_12
  obtain ⟨A76, c77, hc78, le79, HS⟩ := HS.sO 5 rfl at48_13
  refine v_ (ls_ (HS.mu 0 rfl) Try.underlying36 (part_cons (at48_11 (HS.aO 6 rfl)).int (part_cons hc74 (part_cons hc78 (part_cons (at48_14 (HS.aO 6 rfl)).int (part_cons (at48_15 (HS.aO 6 rfl)).int part_nil)))))) ?_
  refine v_ (fa_ Try.underlying48) ?_
  exact by (
  obtain ⟨A80, c81, hc82, le83, HS⟩ := HS.sO 6 rfl at48_17
  obtain ⟨A84, c85, hc86, le87, HS⟩ := HS.sO 7 rfl at48_18
  refine v_ (ls_ (HS.mu 0 rfl) Try.underlying36 (part_cons (at48_16 (HS.aO 8 rfl)).int (part_cons hc82 (part_cons hc86 (part_cons (at48_19 (HS.aO 8 rfl)).int (part_cons (at48_20 (HS.aO 8 rfl)).int part_nil)))))) ?_
  refine v_ (fa_ Try.underlying48) ?_
  obtain ⟨A88, c89, hc90, le91, HS⟩ := HS.sO 8 rfl at48_23
  obtain ⟨A92, c93, hc94, le95, HS⟩ := HS.sO 9 rfl at48_24
  exact by (
  refine v_ (ls_ (HS.mu 0 rfl) Try.underlying36 (part_cons (at48_22 (HS.aO 10 rfl)).int (part_cons hc90 (part_cons hc94 (part_cons (at48_25 (HS.aO 10 rfl)).int (part_cons (at48_26 (HS.aO 10 rfl)).int part_nil)))))) ?_
  refine v_ (fa_ Try.underlying48) ?_
  obtain ⟨A96, c97, hc98, le99, HS⟩ := HS.sO 10 rfl at48_28
  obtain ⟨A100, c101, hc102, le103, HS⟩ := HS.sO 11 rfl at48_29
  refine v_ (ls_ (HS.mu 0 rfl) Try.underlying36 (part_cons (at48_27 (HS.aO 12 rfl)).int (part_cons hc98 (part_cons hc102 (part_cons (at48_30 (HS.aO 12 rfl)).int (part_cons (at48_31 (HS.aO 12 rfl)).int part_nil)))))) ?_
  refine WL.val rfl rfl (by decide) (Run.litN (sz := 5) (z := (.agg #[.int .i64 0, .slice none 0 0, .slice none 0 0, .int .i64 0, .int .i64 0])) (L := [[.int .i64 ((x0.f5.getD i16.toNat o48).f1.f0), .slice A56 ((x0.f5.getD i16.toNat o48).f1.f1.length) c57, .slice A60 ((x0.f5.getD i16.toNat o48).f1.f2.length) c61, .int .i64 ((x0.f5.getD i16.toNat o48).f1.f3), .int .i64 ((x0.f5.getD i16.toNat o48).f1.f4)], [.int .i64 ((x0.f5.getD i16.toNat o48).f2.f0), .slice A64 ((x0.f5.getD i16.toNat o48).f2.f1.length) c65, .slice A68 ((x0.f5.getD i16.toNat o48).f2.f2.length) c69, .int .i64 ((x0.f5.getD i16.toNat o48).f2.f3), .int .i64 ((x0.f5.getD i16.toNat o48).f2.f4)], [.int .i64 ((x0.f5.getD i16.toNat o48).f3.f0), .slice A72 ((x0.f5.getD i16.toNat o48).f3.f1.length) c73, .slice A76 ((x0.f5.getD i16.toNat o48).f3.f2.length) c77, .int .i64 ((x0.f5.getD i16.toNat o48).f3.f3), .int .i64 ((x0.f5.getD i16.toNat o48).f3.f4)], [.int .i64 ((x0.f5.getD i16.toNat o48).f4.f0), .slice A80 ((x0.f5.getD i16.toNat o48).f4.f1.length) c81, .slice A84 ((x0.f5.getD i16.toNat o48).f4.f2.length) c85, .int .i64 ((x0.f5.getD i16.toNat o48).f4.f3), .int .i64 ((x0.f5.getD i16.toNat o48).f4.f4)], [.int .i64 ((x0.f5.getD i16.toNat o48).f6.f0), .slice A88 ((x0.f5.getD i16.toNat o48).f6.f1.length) c89, .slice A92 ((x0.f5.getD i16.toNat o48).f6.f2.length) c93, .int .i64 ((x0.f5.getD i16.toNat o48).f6.f3), .int .i64 ((x0.f5.getD i16.toNat o48).f6.f4)], [.int .i64 ((x0.f5.getD i16.toNat o48).f7.f0), .slice A96 ((x0.f5.getD i16.toNat o48).f7.f1.length) c97, .slice A100 ((x0.f5.getD i16.toNat o48).f7.f2.length) c101, .int .i64 ((x0.f5.getD i16.toNat o48).f7.f3), .int .i64 ((x0.f5.getD i16.toNat o48).f7.f4)]]) rfl ⟨⟨rfl, _, rfl, rfl, rfl⟩, ⟨⟨rfl, _, rfl, rfl, rfl⟩, ⟨⟨rfl, _, rfl, rfl, rfl⟩, ⟨⟨rfl, _, rfl, rfl, rfl⟩, ⟨⟨rfl, _, rfl, rfl, rfl⟩, ⟨⟨rfl, _, rfl, rfl, rfl⟩, trivial⟩⟩⟩⟩⟩⟩ rfl Try.underlying87 (by kernel_rfl) (by decide) (by decide)) ?_
  exact by (
  have HS1 := HS.below (below_alloc (Below.refl _ _) (.cells (List.toArray [.int .i64 ((x0.f5.getD i16.toNat o48).f1.f0), .slice A56 ((x0.f5.getD i16.toNat o48).f1.f1.length) c57, .slice A60 ((x0.f5.getD i16.toNat o48).f1.f2.length) c61, .int .i64 ((x0.f5.getD i16.toNat o48).f1.f3), .int .i64 ((x0.f5.getD i16.toNat o48).f1.f4), .int .i64 ((x0.f5.getD i16.toNat o48).f2.f0), .slice A64 ((x0.f5.getD i16.toNat o48).f2.f1.length) c65, .slice A68 ((x0.f5.getD i16.toNat o48).f2.f2.length) c69, .int .i64 ((x0.f5.getD i16.toNat o48).f2.f3), .int .i64 ((x0.f5.getD i16.toNat o48).f2.f4), .int .i64 ((x0.f5.getD i16.toNat o48).f3.f0), .slice A72 ((x0.f5.getD i16.toNat o48).f3.f1.length) c73, .slice A76 ((x0.f5.getD i16.toNat o48).f3.f2.length) c77, .int .i64 ((x0.f5.getD i16.toNat o48).f3.f3), .int .i64 ((x0.f5.getD i16.toNat o48).f3.f4), .int .i64 ((x0.f5.getD i16.toNat o48).f4.f0), .slice A80 ((x0.f5.getD i16.toNat o48).f4.f1.length) c81, .slice A84 ((x0.f5.getD i16.toNat o48).f4.f2.length) c85, .int .i64 ((x0.f5.getD i16.toNat o48).f4.f3), .int .i64 ((x0.f5.getD i16.toNat o48).f4.f4), .int .i64 ((x0.f5.getD i16.toNat o48).f6.f0), .slice A88 ((x0.f5.getD i16.toNat o48).f6.f1.length) c89, .slice A92 ((x0.f5.getD i16.toNat o48).f6.f2.length) c93, .int .i64 ((x0.f5.getD i16.toNat o48).f6.f3), .int .i64 ((x0.f5.getD i16.toNat o48).f6.f4), .int .i64 ((x0.f5.getD i16.toNat o48).f7.f0), .slice A96 ((x0.f5.getD i16.toNat o48).f7.f1.length) c97, .slice A100 ((x0.f5.getD i16.toNat o48).f7.f2.length) c101, .int .i64 ((x0.f5.getD i16.toNat o48).f7.f3), .int .i64 ((x0.f5.getD i16.toNat o48).f7.f4)]) 36))
  obtain ⟨q104, H⟩ := if_some H
  refine WL.append HS1 1 rfl rfl rfl (by decide) rfl (.agg #[.int .i64 0, .slice none 0 0, .slice none 0 0, .int .i64 0, .int .i64 0]) 72 Try.underlying87 (by kernel_rfl) rfl (by decide) (by decide) rfl rfl [.int .i64 ((x0.f5.getD i16.toNat o48).f1.f0), .slice A56 ((x0.f5.getD i16.toNat o48).f1.f1.length) c57, .slice A60 ((x0.f5.getD i16.toNat o48).f1.f2.length) c61, .int .i64 ((x0.f5.getD i16.toNat o48).f1.f3), .int .i64 ((x0.f5.getD i16.toNat o48).f1.f4), .int .i64 ((x0.f5.getD i16.toNat o48).f2.f0), .slice A64 ((x0.f5.getD i16.toNat o48).f2.f1.length) c65, .slice A68 ((x0.f5.getD i16.toNat o48).f2.f2.length) c69, .int .i64 ((x0.f5.getD i16.toNat o48).f2.f3), .int .i64 ((x0.f5.getD i16.toNat o48).f2.f4), .int .i64 ((x0.f5.getD i16.toNat o48).f3.f0), .slice A72 ((x0.f5.getD i16.toNat o48).f3.f1.length) c73, .slice A76 ((x0.f5.getD i16.toNat o48).f3.f2.length) c77, .int .i64 ((x0.f5.getD i16.toNat o48).f3.f3), .int .i64 ((x0.f5.getD i16.toNat o48).f3.f4), .int .i64 ((x0.f5.getD i16.toNat o48).f4.f0), .slice A80 ((x0.f5.getD i16.toNat o48).f4.f1.length) c81, .slice A84 ((x0.f5.getD i16.toNat o48).f4.f2.length) c85, .int .i64 ((x0.f5.getD i16.toNat o48).f4.f3), .int .i64 ((x0.f5.getD i16.toNat o48).f4.f4), .int .i64 ((x0.f5.getD i16.toNat o48).f6.f0), .slice A88 ((x0.f5.getD i16.toNat o48).f6.f1.length) c89, .slice A92 ((x0.f5.getD i16.toNat o48).f6.f2.length) c93, .int .i64 ((x0.f5.getD i16.toNat o48).f6.f3), .int .i64 ((x0.f5.getD i16.toNat o48).f6.f4), .int .i64 ((x0.f5.getD i16.toNat o48).f7.f0), .slice A96 ((x0.f5.getD i16.toNat o48).f7.f1.length) c97, .slice A100 ((x0.f5.getD i16.toNat o48).f7.f2.length) c101, .int .i64 ((x0.f5.getD i16.toNat o48).f7.f3), .int .i64 ((x0.f5.getD i16.toNat o48).f7.f4)] rfl (lit_news _ _ _) (one_cons rfl (one_cons rfl (one_cons rfl (one_cons rfl (one_cons rfl (one_cons rfl (one_cons rfl (one_cons rfl (one_cons rfl (one_cons rfl (one_cons rfl (one_cons rfl (one_cons rfl (one_cons rfl (one_cons rfl (one_cons rfl (one_cons rfl (one_cons rfl (one_cons rfl (one_cons rfl (one_cons rfl (one_cons rfl (one_cons rfl (one_cons rfl (one_cons rfl (one_cons rfl (one_cons rfl (one_cons rfl (one_cons rfl (one_cons rfl one_nil)))))))))))))))))))))))))))))) (by omega) ((xs13 ++ [(x0.f5.getD i16.toNat o48).f1, (x0.f5.getD i16.toNat o48).f2, (x0.f5.getD i16.toNat o48).f3, (x0.f5.getD i16.toNat o48).f4, (x0.f5.getD i16.toNat o48).f6, (x0.f5.getD i16.toNat o48).f7]).length) (by simp) (fun v105 w106 I107 hI108 HS => ?_)
  dsimp only [List.set] at HS
  replace HS := HS.deriveO (p := (fun W => Reps (k36.K W) k36.sz (xs13 ++ [(x0.f5.getD i16.toNat o48).f1, (x0.f5.getD i16.toNat o48).f2, (x0.f5.getD i16.toNat o48).f3, (x0.f5.getD i16.toNat o48).f4, (x0.f5.getD i16.toNat o48).f6, (x0.f5.getD i16.toNat o48).f7]) I107)) (fun W_ hO_ hN_ => reps_more (J := List.flatten [[.int .i64 ((x0.f5.getD i16.toNat o48).f1.f0), .slice A56 ((x0.f5.getD i16.toNat o48).f1.f1.length) c57, .slice A60 ((x0.f5.getD i16.toNat o48).f1.f2.length) c61, .int .i64 ((x0.f5.getD i16.toNat o48).f1.f3), .int .i64 ((x0.f5.getD i16.toNat o48).f1.f4)], [.int .i64 ((x0.f5.getD i16.toNat o48).f2.f0), .slice A64 ((x0.f5.getD i16.toNat o48).f2.f1.length) c65, .slice A68 ((x0.f5.getD i16.toNat o48).f2.f2.length) c69, .int .i64 ((x0.f5.getD i16.toNat o48).f2.f3), .int .i64 ((x0.f5.getD i16.toNat o48).f2.f4)], [.int .i64 ((x0.f5.getD i16.toNat o48).f3.f0), .slice A72 ((x0.f5.getD i16.toNat o48).f3.f1.length) c73, .slice A76 ((x0.f5.getD i16.toNat o48).f3.f2.length) c77, .int .i64 ((x0.f5.getD i16.toNat o48).f3.f3), .int .i64 ((x0.f5.getD i16.toNat o48).f3.f4)], [.int .i64 ((x0.f5.getD i16.toNat o48).f4.f0), .slice A80 ((x0.f5.getD i16.toNat o48).f4.f1.length) c81, .slice A84 ((x0.f5.getD i16.toNat o48).f4.f2.length) c85, .int .i64 ((x0.f5.getD i16.toNat o48).f4.f3), .int .i64 ((x0.f5.getD i16.toNat o48).f4.f4)], [.int .i64 ((x0.f5.getD i16.toNat o48).f6.f0), .slice A88 ((x0.f5.getD i16.toNat o48).f6.f1.length) c89, .slice A92 ((x0.f5.getD i16.toNat o48).f6.f2.length) c93, .int .i64 ((x0.f5.getD i16.toNat o48).f6.f3), .int .i64 ((x0.f5.getD i16.toNat o48).f6.f4)], [.int .i64 ((x0.f5.getD i16.toNat o48).f7.f0), .slice A96 ((x0.f5.getD i16.toNat o48).f7.f1.length) c97, .slice A100 ((x0.f5.getD i16.toNat o48).f7.f2.length) c101, .int .i64 ((x0.f5.getD i16.toNat o48).f7.f3), .int .i64 ((x0.f5.getD i16.toNat o48).f7.f4)]]) hI108 (AllF.get 15 rfl hO_) (reps_lit ⟨(k36_mk _ ((x0.f5.getD i16.toNat o48).f1) (le59) (AllF.get 11 rfl hO_) (le63) (AllF.get 10 rfl hO_)), ⟨(k36_mk _ ((x0.f5.getD i16.toNat o48).f2) (le67) (AllF.get 9 rfl hO_) (le71) (AllF.get 8 rfl hO_)), ⟨(k36_mk _ ((x0.f5.getD i16.toNat o48).f3) (le75) (AllF.get 7 rfl hO_) (le79) (AllF.get 6 rfl hO_)), ⟨(k36_mk _ ((x0.f5.getD i16.toNat o48).f4) (le83) (AllF.get 5 rfl hO_) (le87) (AllF.get 4 rfl hO_)), ⟨(k36_mk _ ((x0.f5.getD i16.toNat o48).f6) (le91) (AllF.get 3 rfl hO_) (le95) (AllF.get 2 rfl hO_)), ⟨(k36_mk _ ((x0.f5.getD i16.toNat o48).f7) (le99) (AllF.get 1 rfl hO_) (le103) (AllF.get 0 rfl hO_)), trivial⟩⟩⟩⟩⟩⟩))
  clear HS1
  exact by (
  refine as_ ?_
  refine dn_ hK46 ?_
  clear hK46
  refine rg_ ?_
  refine mv_ ?_
  refine b_ bin_add64 ?_
  exact by (
  refine as_ ?_
  refine WL.done ?_
  exact WQ.round k38 (fun _ _ h_ => h_) (Nat.lt_succ_self _) ⟨(xs13 ++ [(x0.f5.getD i16.toNat o48).f1, (x0.f5.getD i16.toNat o48).f2, (x0.f5.getD i16.toNat o48).f3, (x0.f5.getD i16.toNat o48).f4, (x0.f5.getD i16.toNat o48).f6, (x0.f5.getD i16.toNat o48).f7]), v105, I107, (wrap64 (i16 + 1)), rfl, ⟨_, H, Ho12⟩, (St.pick (St.forget HS 0 rfl) (fun W_ h_ => ⟨AllF.get 0 rfl h_, AllF.get 17 rfl h_, trivial⟩) (fun W_ h_ => trivial))⟩ ⟨rfl, rfl, rfl, trivial⟩ )))))))))))))))))
def spec_BudgetOf.b0 (x0 : S39) (t6 : (List S36)) (rec_ : Int → Int → Option (Int × Int)) (k26 : Nat) (i19 : Int) (i20 : Int) : Option (Int × Int) := (if i20 < (t6.length : Int) then ((spec_ModelOk.g k26 x0).bind fun t30 => (if t30 = true then (((if 0 ≤ i20 ∧ i20 < (t6.length : Int) then ((spec_l10Worst.f k26 ((t6.getD i20.toNat o36).f0) ((t6.getD i20.toNat o36).f1) ((t6.getD i20.toNat o36).f2) ((t6.getD i20.toNat o36).f3) ((t6.getD i20.toNat o36).f4)).bind fun t57 => (if t57 > i19 then (some t57) else (some i19))) else none) : Option Int).bind (fun o42 => (rec_ o42 (wrap64 (i20 + 1))))) else (some (i19, i20)))) else (some (i19, i20)))
def spec_BudgetOf.l0 (x0 : S39) (t6 : (List S36)) : Nat → Int → Int → Option (Int × Int)
  | 0, _, _ => none
  | k + 1, i19, i20 => spec_BudgetOf.b0 x0 t6 (spec_BudgetOf.l0 x0 t6 k) k i19 i20
def spec_BudgetOf.g (k : Nat) (x0 : S39) : Option Int := ((spec_l10Matrices.g k x0).bind fun t6 => ((spec_BudgetOf.l0 x0 t6 k 0 0).bind (fun o24 => (some o24.1))))
theorem spec_BudgetOf.runs (k : Nat) (cs0 : List Value) (x0 : S39) (r : Int) (w : World) (hk0 : k39.K w x0 cs0) (H : spec_BudgetOf.g k x0 = some r) :
    Calls Try.prog 32 #[.agg cs0.toArray] w fun e w' => e = .returned (.int .i64 r) ∧ Below w.heap.size w w' := by
  have el0 : cs0.length = 14 := k39.K_len hk0
  unfold spec_BudgetOf.g at H
  have HS : St (fun _ => True) w w [] [(fun W => k39.K W x0 cs0)] [] := St.start (foot_cons (foot_K h39 hk0) foot_nil)
  refine cw_ (n := 29) Try.func32 fun R_ hR_ => ?_
  refine sr_ fun _ hK1 => ?_
  refine bo_ HS (fun b2 w3 hb2 HS => ?_)
  exact by (
  refine as_ ?_
  refine dn_ hK1 ?_
  clear hK1
  refine sr_ fun _ hK4 => ?_
  refine as_ ?_
  refine dn_ hK4 ?_
  exact by (
  clear hK4
  refine sr_ fun _ hK5 => ?_
  refine v_ (Run.loadS (cs := cs0) rfl rfl Try.underlying39 rfl (by rw [el0]; kernel_rfl) (box_part (HS.mu 0 rfl) part_all)) ?_
  obtain ⟨t6, ha7, H⟩ := bind_some H
  refine c_ Try.func85 (spec_l10Matrices.runs k cs0 x0 t6 _ _ (HS.footO 0 rfl) ha7) ?_
  clear ha7
  exact by (
  rintro _ w8 ⟨A9, c10, rfl, le11, hf12, hb⟩
  replace HS := HS.newOs hb (foot_cons hf12 foot_nil)
  refine ⟨_, rfl, ?_⟩
  clear hb
  refine as_ ?_
  refine dn_ hK5 ?_
  exact by (
  clear hK5
  refine WC.seq fun K13 hK13 => ?_
  refine sr_ fun _ hK14 => ?_
  refine as_ ?_
  refine dn_ hK14 ?_
  clear hK14
  exact by (
  refine WC.block ?_
  obtain ⟨G15, hG16, o17, H, Ho18⟩ := open_G H
  have X21 : ∀ E_ W_, (∃ (i19 : Int) (i20 : Int), E_ = [(1, .pointer (some ⟨b2, 0, none⟩)), (3, .int .i64 i19), (4, .slice A9 t6.length c10), (5, .int .i64 i20)] ∧ G15 (i19, i20) = some r ∧ St (fun _ => True) w W_ [boxM b2 cs0.toArray 39] [(fun W => k36.C W A9 t6.length t6), (fun W => k39.K W x0 cs0)] []) → ∀ a, Fits a 29 E_ → K13 a W_ := by
    rintro E_ w22 ⟨i19, i20, rfl, H, HS⟩
    rw [hG16] at H
    (try dsimp only at H)
    exact by (
    refine hK13 _ _ ?_
    clear hK13
    refine sr_ fun _ hK23 => ?_
    refine mv_ ?_
    refine as_ ?_
    refine dn_ hK23 ?_
    exact by (
    clear hK23
    obtain rfl := os H
    exact rt1 Try.f32 rfl rfl hR_ ⟨rfl, HS.b⟩ ))
  clear hK13
  refine WC.loop (fun k_ E_ W_ => ∃ (i19 : Int) (i20 : Int), E_ = [(1, .pointer (some ⟨b2, 0, none⟩)), (3, .int .i64 i19), (4, .slice A9 t6.length c10), (5, .int .i64 i20)] ∧ (∃ o_, spec_BudgetOf.l0 x0 t6 k_ i19 i20 = some o_ ∧ G15 o_ = some r) ∧ St (fun _ => True) w W_ [boxM b2 cs0.toArray 39] [(fun W => k36.C W A9 t6.length t6), (fun W => k39.K W x0 cs0)] []) k ⟨0, 0, rfl, ⟨_, H, Ho18⟩, (St.pick HS (fun W_ h_ => ⟨AllF.get 0 rfl h_, AllF.get 1 rfl h_, trivial⟩) (fun W_ h_ => trivial))⟩ ⟨rfl, rfl, rfl, rfl, trivial⟩ ?_
  rintro k_ E_ w25 ⟨i19, i20, rfl, ⟨o17, H, Ho18⟩, HS⟩
  exact by (
  rcases k_ with _ | k26
  · exact no_ H
  replace H : spec_BudgetOf.b0 x0 t6 (spec_BudgetOf.l0 x0 t6 k26) k26 i19 i20 = some o17 := H
  unfold spec_BudgetOf.b0 at H
  refine WC.seq fun _ hK27 => ?_
  refine sr_ fun _ hK28 => ?_
  exact by (
  refine mv_ ?_
  refine mv_ ?_
  refine ln_ Try.underlying87 ?_
  refine b_ bin_lss ?_
  refine mv_ ?_
  rcases eti_ H with ⟨c29, H⟩ | ⟨c29, H⟩
  · refine off_ (c' := false) (dF c29) ?_
    exact by (
    refine off_ (c' := false) (dF c29) ?_
    refine v_ (Run.pickF rfl rfl (dF c29) rfl) ?_
    refine dn_ hK28 ?_
    clear hK28
    refine wn_ rfl ?_
    refine WC.exit ?_
    obtain rfl := os H
    exact WQ.via2 (fun _ _ h_ => h_) X21 ⟨i19, i20, rfl, Ho18, (St.pick HS (fun W_ h_ => ⟨AllF.get 0 rfl h_, AllF.get 1 rfl h_, trivial⟩) (fun W_ h_ => trivial))⟩ ⟨rfl, rfl, rfl, rfl, trivial⟩ )
  exact by (
  refine on_ (dT c29) ?_
  refine v_ (Run.loadS (cs := cs0) rfl rfl Try.underlying39 rfl (by rw [el0]; kernel_rfl) (box_part (HS.mu 0 rfl) part_all)) ?_
  refine on_ (dT c29) ?_
  obtain ⟨t30, ha31, H⟩ := bind_some H
  refine cs_ HS Try.func24 (spec_ModelOk.runs k26 cs0 x0 t30 _ (HS.getO 1 rfl) ha31) (fun w32 HS => ?_)
  clear ha31
  exact by (
  refine v_ (Run.pickT rfl rfl (dT c29) rfl) ?_
  refine dn_ hK28 ?_
  clear hK28
  rcases eti_ H with ⟨c33, H⟩ | ⟨c33, H⟩
  · refine wn_ (bF c33) ?_
    refine WC.exit ?_
    obtain rfl := os H
    exact WQ.via2 (fun _ _ h_ => h_) X21 ⟨i19, i20, rfl, Ho18, (St.pick HS (fun W_ h_ => ⟨AllF.get 0 rfl h_, AllF.get 1 rfl h_, trivial⟩) (fun W_ h_ => trivial))⟩ ⟨rfl, rfl, rfl, rfl, trivial⟩
  exact by (
  refine wy_ c33 ?_
  refine WC.skip ?_
  refine via_ hK27 ?_
  clear hK27
  refine WC.seq fun K34 hK34 => ?_
  obtain ⟨G35, hG36, o37, H, Ho38⟩ := open_G H
  exact by (
  have X40 : ∀ E_ W_, (∃ (i39 : Int), E_ = [(1, .pointer (some ⟨b2, 0, none⟩)), (3, .int .i64 i39), (4, .slice A9 t6.length c10), (5, .int .i64 i20)] ∧ G35 i39 = some o17 ∧ St (fun _ => True) w W_ [boxM b2 cs0.toArray 39] [(fun W => k36.C W A9 t6.length t6), (fun W => k39.K W x0 cs0)] []) → ∀ a, Fits a 29 E_ → K34 a W_ := by
    rintro E_ w41 ⟨i39, rfl, H, HS⟩
    rw [hG36] at H
    (try dsimp only at H)
    refine hK34 _ _ ?_
    clear hK34
    exact by (
    refine rg_ ?_
    refine mv_ ?_
    refine b_ bin_add64 ?_
    refine as_ ?_
    refine WL.done ?_
    exact WQ.round k26 (fun _ _ h_ => h_) (Nat.lt_succ_self _) ⟨i39, (wrap64 (i20 + 1)), rfl, ⟨_, H, Ho18⟩, (St.pick HS (fun W_ h_ => ⟨AllF.get 0 rfl h_, AllF.get 1 rfl h_, trivial⟩) (fun W_ h_ => trivial))⟩ ⟨rfl, rfl, rfl, rfl, trivial⟩ )
  exact by (
  clear hK34
  refine WC.block ?_
  refine sr_ fun _ hK43 => ?_
  refine mv_ ?_
  refine mv_ ?_
  obtain ⟨⟨q44, q45⟩, H⟩ := if_some H
  exact by (
  obtain ⟨ad46, rfl⟩ := C_open (HS.getO 0 rfl) (by omega)
  refine v_ (ia_ Try.underlying87 5 q44 q45) ?_
  obtain ⟨e47, el48, HS⟩ := HS.elO 0 rfl (by decide) o36 i20 q44 q45
  obtain ⟨A49, c50, hc51, le52, HS⟩ := HS.eO 0 rfl at36_1
  obtain ⟨A53, c54, hc55, le56, HS⟩ := HS.eO 1 rfl at36_2
  refine v_ (Run.loadS (cs := [.int .i64 ((t6.getD i20.toNat o36).f0), .slice A49 ((t6.getD i20.toNat o36).f1.length) c50, .slice A53 ((t6.getD i20.toNat o36).f2.length) c54, .int .i64 ((t6.getD i20.toNat o36).f3), .int .i64 ((t6.getD i20.toNat o36).f4)]) rfl rfl Try.underlying36 rfl (by kernel_rfl) (cells_part (HS.getO 2 rfl).2 (part_cons (at36_0 (AtK.whole (HS.getO 2 rfl).1)).int (part_cons hc51 (part_cons hc55 (part_cons (at36_3 (AtK.whole (HS.getO 2 rfl).1)).int (part_cons (at36_4 (AtK.whole (HS.getO 2 rfl).1)).int part_nil))))))) ?_
  exact by (
  obtain ⟨t57, ha58, H⟩ := bind_some H
  refine cs_ HS Try.func86 (spec_l10Worst.calls k26 ((t6.getD i20.toNat o36).f0) A49 c50 ((t6.getD i20.toNat o36).f1) A53 c54 ((t6.getD i20.toNat o36).f2) ((t6.getD i20.toNat o36).f3) ((t6.getD i20.toNat o36).f4) t57 _ (HS.getO 1 rfl) le52 (HS.getO 0 rfl) le56 ha58) (fun w59 HS => ?_)
  clear ha58
  refine as_ ?_
  refine dn_ hK43 ?_
  clear hK43
  exact by (
  refine sr_ fun _ hK60 => ?_
  refine mv_ ?_
  refine mv_ ?_
  refine b_ bin_gtr ?_
  refine dn_ hK60 ?_
  clear hK60
  exact by (
  rcases eti_ H with ⟨c61, H⟩ | ⟨c61, H⟩
  · refine wn_ (dF c61) ?_
    refine WC.skip ?_
    obtain rfl := os H
    exact WQ.via2 (fun _ _ h_ => h_) X40 ⟨i19, rfl, Ho38, (St.pick HS (fun W_ h_ => ⟨AllF.get 3 rfl h_, AllF.get 4 rfl h_, trivial⟩) (fun W_ h_ => trivial))⟩ ⟨rfl, rfl, rfl, rfl, trivial⟩
  refine wy_ (dT c61) ?_
  exact by (
  refine rg_ ?_
  refine mv_ ?_
  refine as_ ?_
  refine WL.done ?_
  obtain rfl := os H
  exact WQ.via2 (fun _ _ h_ => h_) X40 ⟨t57, rfl, Ho38, (St.pick HS (fun W_ h_ => ⟨AllF.get 3 rfl h_, AllF.get 4 rfl h_, trivial⟩) (fun W_ h_ => trivial))⟩ ⟨rfl, rfl, rfl, rfl, trivial⟩ )))))))))))))))))
def laws_FnBudget.b0 (t10 : S39 × (List Int)) (rec_ : Int → Int → Option (Int × Int)) (k47 : Nat) (i34 : Int) (i35 : Int) : Option (Int × Int) := (if i35 < (t10.1.f7.f1.length : Int) then (((if 0 ≤ i35 ∧ i35 < (t10.1.f7.f1.length : Int) then (if 0 ≤ i35 ∧ i35 < (t10.1.f7.f2.length : Int) then ((spec_Worst.f k47 (t10.1.f7.f1.getD i35.toNat []) (t10.1.f7.f2.getD i35.toNat [])).bind fun t82 => (if t82 > i34 then (some t82) else (some i34))) else none) else none) : Option Int).bind (fun o63 => (rec_ o63 (wrap64 (i35 + 1))))) else (some (i34, i35)))
def laws_FnBudget.l0 (t10 : S39 × (List Int)) : Nat → Int → Int → Option (Int × Int)
  | 0, _, _ => none
  | k + 1, i34, i35 => laws_FnBudget.b0 t10 (laws_FnBudget.l0 t10 k) k i34 i35
def laws_FnBudget.g (k : Nat) (l0 : List Int) : Option Bool := ((laws_big.f l0).bind fun t4 => (if t4 = true then (some true) else ((spec_DrawRightModel.g k l0).bind fun t10 => ((impl_BudgetOf.g k t10.1).bind fun t24 => ((laws_FnBudget.l0 t10 k 0 0).bind (fun o45 => ((spec_BudgetOf.g k t10.1).bind fun t39 => (if t24 = t39 then (if t24 ≥ o45.1 then (if t24 ≤ 600000 then (some (decide (t24 > 0))) else (some false)) else (some false)) else (some false)))))))))
theorem laws_FnBudget.runs (k : Nat) (A0 : Option Addr) (c0 : Nat) (l0 : List Int) (r : Bool) (w : World) (hr0 : (Kd.int .u8).C w A0 l0.length l0) (hc0 : l0.length ≤ c0) (H : laws_FnBudget.g k l0 = some r) :
    Calls Try.prog 7 #[.slice A0 l0.length c0] w fun e w' => e = .returned (.bool r) ∧ Below w.heap.size w w' := by
  unfold laws_FnBudget.g at H
  have HS : St (fun _ => True) w w [] [(fun W => (Kd.int .u8).C W A0 l0.length l0)] [] := St.start (foot_cons (foot_C (Kd.heap_int _) hr0) foot_nil)
  refine cw_ (n := 60) Try.func7 fun R_ hR_ => ?_
  refine sr_ fun _ hK1 => ?_
  refine as_ ?_
  refine dn_ hK1 ?_
  exact by (
  clear hK1
  refine WC.seq fun _ hK2 => ?_
  refine sr_ fun _ hK3 => ?_
  refine mv_ ?_
  obtain ⟨t4, ha5, H⟩ := bind_some H
  refine cs0_ HS Try.func26 (laws_big.calls A0 c0 l0 t4 _ (HS.getO 0 rfl) hc0 ha5) (fun w6 HS => ?_)
  exact by (
  clear ha5
  refine dn_ hK3 ?_
  clear hK3
  rcases ite_ H with ⟨c7, H⟩ | ⟨c7, H⟩
  · refine wy_ c7 ?_
    refine sr_ fun _ hK8 => ?_
    exact by (
    refine as_ ?_
    refine dn_ hK8 ?_
    clear hK8
    obtain rfl := os H
    exact rt1 Try.f7 rfl rfl hR_ ⟨rfl, HS.b⟩ )
  refine wn_ (bF c7) ?_
  exact by (
  refine WC.skip ?_
  refine via_ hK2 ?_
  clear hK2
  refine sr_ fun _ hK9 => ?_
  refine mv_ ?_
  obtain ⟨t10, ha11, H⟩ := bind_some H
  exact by (
  refine c_ Try.func27 (spec_DrawRightModel.runs k A0 c0 l0 t10.1 t10.2 _ (HS.getO 0 rfl) hc0 ha11) ?_
  clear ha11
  rintro _ w12 ⟨cs13, A16, c17, rfl, hf14, le18, hf19, hb⟩
  replace HS := HS.newNs hb (foot_cons hf14 (foot_cons hf19 foot_nil))
  have el15 : cs13.length = 14 := k39.K_len (Foot.now hf14)
  refine ⟨_, rfl, ?_⟩
  exact by (
  clear hb
  refine mv_ ?_
  refine v_ (Run.extract rfl rfl rfl) ?_
  refine v_ (Run.extract rfl rfl rfl) ?_
  refine WL.alloc HS (v := .agg #[.int .i64 0, .int .i64 0, .int .i64 0, .slice none 0 0, .slice none 0 0, .slice none 0 0, .slice none 0 0, .int .i64 0, .slice none 0 0, .slice none 0 0, .int .i64 0, .int .i64 0, .slice none 0 0, .slice none 0 0]) (cs := #[.int .i64 0, .int .i64 0, .int .i64 0, .slice none 0 0, .slice none 0 0, .slice none 0 0, .slice none 0 0, .int .i64 0, .slice none 0 0, .slice none 0 0, .int .i64 0, .int .i64 0, .slice none 0 0, .slice none 0 0]) rfl rfl (by decide) rfl (by kernel_rfl) rfl (fun b20 w21 hb20 HS => ?_)
  refine WL.storeS HS 0 rfl rfl rfl rfl rfl rfl (Kd.K_one _ (HS.getN 0 rfl)) (by rw [el15]; kernel_rfl) (by rw [el15]; decide) (splice_all (by rw [el15]; rfl)) (fun w22 HS => ?_)
  exact by (
  dsimp only [List.set] at HS
  refine as_ ?_
  refine dn_ hK9 ?_
  clear hK9
  refine sr_ fun _ hK23 => ?_
  refine v_ (Run.loadS (cs := cs13) rfl rfl Try.underlying39 rfl (by rw [el15]; kernel_rfl) (box_part (HS.mu 0 rfl) part_all)) ?_
  exact by (
  obtain ⟨t24, ha25, H⟩ := bind_some H
  refine cs_ HS Try.func30 (impl_BudgetOf.runs k cs13 t10.1 t24 _ (HS.getN 0 rfl) ha25) (fun w26 HS => ?_)
  clear ha25
  refine as_ ?_
  refine dn_ hK23 ?_
  clear hK23
  exact by (
  refine sr_ fun _ hK27 => ?_
  refine as_ ?_
  refine dn_ hK27 ?_
  clear hK27
  refine WC.seq fun K28 hK28 => ?_
  refine sr_ fun _ hK29 => ?_
  exact by (
  refine as_ ?_
  refine dn_ hK29 ?_
  clear hK29
  refine WC.block ?_
  obtain ⟨G30, hG31, o32, H, Ho33⟩ := open_G H
  have X36 : ∀ E_ W_, (∃ (i34 : Int) (i35 : Int), E_ = [(3, .pointer (some ⟨b20, 0, none⟩)), (5, .int .i64 t24), (6, .int .i64 i34), (7, .int .i64 i35)] ∧ G30 (i34, i35) = some r ∧ St (fun _ => True) w W_ [boxM b20 cs13.toArray 39] [(fun W => (Kd.int .u8).C W A0 l0.length l0)] [(fun W => k39.K W t10.1 cs13)]) → ∀ a, Fits a 60 E_ → K28 a W_ := by
    exact by (
    rintro E_ w37 ⟨i34, i35, rfl, H, HS⟩
    rw [hG31] at H
    (try dsimp only at H)
    refine hK28 _ _ ?_
    clear hK28
    refine sr_ fun _ hK38 => ?_
    exact by (
    refine mv_ ?_
    refine v_ (Run.loadS (cs := cs13) rfl rfl Try.underlying39 rfl (by rw [el15]; kernel_rfl) (box_part (HS.mu 0 rfl) part_all)) ?_
    obtain ⟨t39, ha40, H⟩ := bind_some H
    refine cs_ HS Try.func32 (spec_BudgetOf.runs k cs13 t10.1 t39 _ (HS.getN 0 rfl) ha40) (fun w41 HS => ?_)
    clear ha40
    refine b_ bin_eql ?_
    exact by (
    refine mv_ ?_
    rcases eti_ H with ⟨c42, H⟩ | ⟨c42, H⟩
    · refine off_ (c' := false) (eF c42) ?_
      refine WL.know 47 (eF c42) ?_
      refine fast_ ?_
      refine via_ hK38 ?_
      exact by (
      clear hK38
      obtain rfl := os H
      exact rt1 Try.f7 rfl rfl hR_ ⟨rfl, HS.b⟩ )
    refine on_ (eT c42) ?_
    refine mv_ ?_
    refine on_ (eT c42) ?_
    exact by (
    refine mv_ ?_
    refine on_ (eT c42) ?_
    refine b_ bin_geq ?_
    refine v_ (Run.pickT rfl rfl (eT c42) rfl) ?_
    refine mv_ ?_
    rcases eti_ H with ⟨c43, H⟩ | ⟨c43, H⟩
    · refine off_ (c' := false) (dF c43) ?_
      exact by (
      refine WL.know 52 (dF c43) ?_
      refine fast_ ?_
      refine via_ hK38 ?_
      clear hK38
      obtain rfl := os H
      exact rt1 Try.f7 rfl rfl hR_ ⟨rfl, HS.b⟩ )
    exact by (
    refine on_ (dT c43) ?_
    refine mv_ ?_
    refine on_ (dT c43) ?_
    refine b_ bin_leq ?_
    refine v_ (Run.pickT rfl rfl (dT c43) rfl) ?_
    refine mv_ ?_
    exact by (
    rcases eti_ H with ⟨c44, H⟩ | ⟨c44, H⟩
    · refine off_ (c' := false) (dF c44) ?_
      refine WL.know 56 (dF c44) ?_
      refine fast_ ?_
      refine via_ hK38 ?_
      clear hK38
      obtain rfl := os H
      exact rt1 Try.f7 rfl rfl hR_ ⟨rfl, HS.b⟩
    exact by (
    refine on_ (dT c44) ?_
    refine mv_ ?_
    refine on_ (dT c44) ?_
    refine b_ bin_gtr ?_
    refine v_ (Run.pickT rfl rfl (dT c44) rfl) ?_
    refine as_ ?_
    exact by (
    refine dn_ hK38 ?_
    clear hK38
    obtain rfl := os H
    exact rt1 Try.f7 rfl rfl hR_ ⟨rfl, HS.b⟩ ))))))))
  clear hK28
  refine WC.loop (fun k_ E_ W_ => ∃ (i34 : Int) (i35 : Int), E_ = [(3, .pointer (some ⟨b20, 0, none⟩)), (5, .int .i64 t24), (6, .int .i64 i34), (7, .int .i64 i35)] ∧ (∃ o_, laws_FnBudget.l0 t10 k_ i34 i35 = some o_ ∧ G30 o_ = some r) ∧ St (fun _ => True) w W_ [boxM b20 cs13.toArray 39] [(fun W => (Kd.int .u8).C W A0 l0.length l0)] [(fun W => k39.K W t10.1 cs13)]) k ⟨0, 0, rfl, ⟨_, H, Ho33⟩, (St.pick HS (fun W_ h_ => ⟨AllF.get 0 rfl h_, trivial⟩) (fun W_ h_ => ⟨AllF.get 0 rfl h_, trivial⟩))⟩ ⟨rfl, rfl, rfl, rfl, trivial⟩ ?_
  exact by (
  rintro k_ E_ w46 ⟨i34, i35, rfl, ⟨o32, H, Ho33⟩, HS⟩
  rcases k_ with _ | k47
  · exact no_ H
  replace H : laws_FnBudget.b0 t10 (laws_FnBudget.l0 t10 k47) k47 i34 i35 = some o32 := H
  unfold laws_FnBudget.b0 at H
  refine WC.seq fun _ hK48 => ?_
  exact by (
  refine sr_ fun _ hK49 => ?_
  refine mv_ ?_
  refine v_ (fa_ Try.underlying39) ?_
  refine v_ (fa_ Try.underlying36) ?_
  obtain ⟨A50, c51, hc52, le53, HS⟩ := HS.sN 0 rfl at39_8
  refine v_ (lb_ (HS.mu 0 rfl) Try.underlying23 hc52) ?_
  exact by (
  refine ln_ Try.underlying23 ?_
  refine b_ bin_lss ?_
  refine dn_ hK49 ?_
  clear hK49
  rcases eti_ H with ⟨c54, H⟩ | ⟨c54, H⟩
  · refine wn_ (dF c54) ?_
    exact by (
    refine WC.exit ?_
    obtain rfl := os H
    exact WQ.via2 (fun _ _ h_ => h_) X36 ⟨i34, i35, rfl, Ho33, (St.pick HS (fun W_ h_ => ⟨AllF.get 0 rfl h_, trivial⟩) (fun W_ h_ => ⟨AllF.get 1 rfl h_, trivial⟩))⟩ ⟨rfl, rfl, rfl, rfl, trivial⟩ )
  refine wy_ (dT c54) ?_
  refine WC.skip ?_
  refine via_ hK48 ?_
  exact by (
  clear hK48
  refine WC.seq fun K55 hK55 => ?_
  obtain ⟨G56, hG57, o58, H, Ho59⟩ := open_G H
  have X61 : ∀ E_ W_, (∃ (i60 : Int), E_ = [(3, .pointer (some ⟨b20, 0, none⟩)), (5, .int .i64 t24), (6, .int .i64 i60), (7, .int .i64 i35)] ∧ G56 i60 = some o32 ∧ St (fun _ => True) w W_ [boxM b20 cs13.toArray 39] [(fun W => (Kd.int .u8).C W A0 l0.length l0)] [(fun W => (Kd.slice 3 (Kd.int .i64)).C W A50 t10.1.f7.f1.length t10.1.f7.f1), (fun W => k39.K W t10.1 cs13)]) → ∀ a, Fits a 60 E_ → K55 a W_ := by
    rintro E_ w62 ⟨i60, rfl, H, HS⟩
    rw [hG57] at H
    exact by (
    (try dsimp only at H)
    refine hK55 _ _ ?_
    clear hK55
    refine rg_ ?_
    refine mv_ ?_
    refine b_ bin_add64 ?_
    exact by (
    refine as_ ?_
    refine WL.done ?_
    exact WQ.round k47 (fun _ _ h_ => h_) (Nat.lt_succ_self _) ⟨i60, (wrap64 (i35 + 1)), rfl, ⟨_, H, Ho33⟩, (St.pick HS (fun W_ h_ => ⟨AllF.get 0 rfl h_, trivial⟩) (fun W_ h_ => ⟨AllF.get 1 rfl h_, trivial⟩))⟩ ⟨rfl, rfl, rfl, rfl, trivial⟩ ))
  clear hK55
  refine WC.block ?_
  refine WC.seq fun _ hK64 => ?_
  exact by (
  refine WC.drawS HS [] rfl rfl (fun w65 HS => ?_)
  have HB := Below.refl w65.heap.size w65
  have HSW := HS
  refine df_ 0 Try.underlying39 ?_
  refine df_ 1 Try.underlying36 ?_
  refine dm_ 3 ?_
  exact by (
  refine df_ 6 Try.underlying39 ?_
  refine df_ 7 Try.underlying36 ?_
  refine dm_ 9 ?_
  refine bl_ 2 HS (Below.refl _ _) 0 Try.underlying23 hc52 ?_
  obtain ⟨⟨q66, q67⟩, H⟩ := if_some H
  obtain ⟨ad68, rfl⟩ := C_open (HS.getN 0 rfl) (by omega)
  exact by (
  refine di_ 4 Try.underlying23 1 q66 q67 ?_
  obtain ⟨A69, c70, le71, HS⟩ := HS.slN 0 rfl i35 q66 q67
  refine dt_ 5 (Below.refl _ _) (fun w_ hw_ => Run.load rfl rfl Try.underlying25 rfl ((HS.below hw_).getN 1 rfl)) ?_
  obtain ⟨A72, c73, hc74, le75, HS⟩ := HS.sN 3 rfl at39_9
  refine bl_ 8 HS (Below.refl _ _) 0 Try.underlying23 hc74 ?_
  obtain ⟨⟨q76, q77⟩, H⟩ := if_some H
  exact by (
  obtain ⟨ad78, rfl⟩ := C_open (HS.getN 0 rfl) (by omega)
  refine di_ 10 Try.underlying23 1 q76 q77 ?_
  obtain ⟨A79, c80, le81, HS⟩ := HS.slN 0 rfl i35 q76 q77
  refine dt_ 11 (Below.refl _ _) (fun w_ hw_ => Run.load rfl rfl Try.underlying25 rfl ((HS.below hw_).getN 1 rfl)) ?_
  obtain ⟨t82, ha83, H⟩ := bind_some H
  refine dcs0_ HS HB 12 (w_none rfl) Try.func31 (spec_Worst.calls k47 A69 c70 (t10.1.f7.f1.getD i35.toNat []) A79 c80 (t10.1.f7.f2.getD i35.toNat []) t82 _ (HS.getN 3 rfl) le71 (HS.getN 0 rfl) le81 ha83) (fun w84 HS HB => ?_)
  exact by (
  clear ha83
  refine dp_ 13 (fun _ => Run.assign rfl rfl) ?_
  refine dd_ ?_
  clear HB HSW
  refine via_ hK64 ?_
  clear hK64
  exact by (
  refine sr_ fun _ hK85 => ?_
  refine mv_ ?_
  refine mv_ ?_
  refine b_ bin_gtr ?_
  refine dn_ hK85 ?_
  clear hK85
  exact by (
  rcases eti_ H with ⟨c86, H⟩ | ⟨c86, H⟩
  · refine wn_ (dF c86) ?_
    refine WC.skip ?_
    obtain rfl := os H
    exact WQ.via2 (fun _ _ h_ => h_) X61 ⟨i34, rfl, Ho59, (St.pick HS (fun W_ h_ => ⟨AllF.get 0 rfl h_, trivial⟩) (fun W_ h_ => ⟨AllF.get 5 rfl h_, AllF.get 6 rfl h_, trivial⟩))⟩ ⟨rfl, rfl, rfl, rfl, trivial⟩
  refine wy_ (dT c86) ?_
  exact by (
  refine rg_ ?_
  refine mv_ ?_
  refine as_ ?_
  refine WL.done ?_
  obtain rfl := os H
  exact WQ.via2 (fun _ _ h_ => h_) X61 ⟨t82, rfl, Ho59, (St.pick HS (fun W_ h_ => ⟨AllF.get 0 rfl h_, trivial⟩) (fun W_ h_ => ⟨AllF.get 5 rfl h_, AllF.get 6 rfl h_, trivial⟩))⟩ ⟨rfl, rfl, rfl, rfl, trivial⟩ )))))))))))))))))))))
def okT5 (x : Int) : Prop := (Lit.int .u8 x).wf = true
theorem opensT5 : XOpen.Opens Try.prog 5 (Kd.int .u8) okT5 := XOpen.opens_int Try.underlying5
def okT53 (xs : List Int) : Prop := xs.length ≤ 9223372036854775807 ∧ ∀ x ∈ xs, okT5 x
theorem opensT53 : XOpen.Opens Try.prog 53 (Kd.slice 5 (Kd.int .u8)) okT53 := XOpen.opens_slice Try.underlying53 (by kernel_rfl) opensT5
/-- THE ONE PURE STATEMENT of laws_FnBudget. -/
def laws_FnBudget.Pure : Prop := ∀ (l0 : List Int), okT53 l0 → ∃ k, laws_FnBudget.g k l0 = some true
end Go.Proofs.Ytacbkcofcbglhaa.PFnBudget
