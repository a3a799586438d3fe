/- Functions that the statement reaches, as Lean functions, and the proof that a call of each comes to just its answer; written by this claim's own program. No conditions. -/
import Derived.Test.YtbdbadkinjbpcaaGFnFiles3
namespace Go.Proofs.Ytbdbadkinjbpcaa.PFnFiles
open Try
open Go.RowKit Go.Proofs.YtbdbadkinjbpcaaW.PrintWords Go.Proofs.YtbdbadkinjbpcaaW.PrintLast Go.Proofs.YtbdbadkinjbpcaaW.PrintMore Go.Proofs.Ytbdbadkinjbpcaa.XW Go.Proofs.Ytbdbadkinjbpcaa.XOp Go.Proofs.Ytbdbadkinjbpcaa.XSt Go.Proofs.Ytbdbadkinjbpcaa.XDraw
set_option linter.unusedVariables false
set_option linter.unusedSimpArgs false
set_option maxHeartbeats 4000000
set_option maxRecDepth 20000
def sMO1.b3 (x0 : S33) (rec_ : Int → Option (Bool ⊕ Int)) (k240 : Nat) (i168 : Int) : Option (Bool ⊕ Int) := (if i168 < (x0.f4.length : Int) then (if 0 ≤ i168 ∧ i168 < (x0.f4.length : Int) then (if ((x0.f4.getD i168.toNat []).length : Int) = x0.f0 then ((sA.g k240 (x0.f4.getD i168.toNat []) (-127) 127).bind fun t254 => (if t254 = true then (rec_ (wrap64 (i168 + 1))) else (some (Sum.inl false)))) else (some (Sum.inl false))) else none) else (some (Sum.inr i168)))
def sMO1.l3 (x0 : S33) : Nat → Int → Option (Bool ⊕ Int)
 | 0, _ => none
 | k + 1, i168 => sMO1.b3 x0 (sMO1.l3 x0 k) k i168
def sMO1.b2 (x0 : S33) (rec_ : Int → Option (Bool ⊕ Int)) (k221 : Nat) (i178 : Int) : Option (Bool ⊕ Int) := (if i178 < (x0.f5.length : Int) then (if 0 ≤ i178 ∧ i178 < (x0.f5.length : Int) then ((spec_LayerOk.g k221 (x0.f5.getD i178.toNat o52) x0.f0).bind fun t233 => (if t233 = true then (rec_ (wrap64 (i178 + 1))) else (some (Sum.inl false)))) else none) else (some (Sum.inr i178)))
def sMO1.l2 (x0 : S33) : Nat → Int → Option (Bool ⊕ Int)
 | 0, _ => none
 | k + 1, i178 => sMO1.b2 x0 (sMO1.l2 x0 k) k i178
def sMO1.b1 (x0 : S33) (rec_ : Int → Option (Bool ⊕ Int)) (k114 : Nat) (i42 : Int) : Option (Bool ⊕ Int) := (if i42 < (x0.f4.length : Int) then (if 0 ≤ i42 ∧ i42 < (x0.f4.length : Int) then (if ((x0.f4.getD i42.toNat []).length : Int) = x0.f0 then ((sA.g k114 (x0.f4.getD i42.toNat []) (-127) 127).bind fun t128 => (if t128 = true then (rec_ (wrap64 (i42 + 1))) else (some (Sum.inl false)))) else (some (Sum.inl false))) else none) else (some (Sum.inr i42)))
def sMO1.l1 (x0 : S33) : Nat → Int → Option (Bool ⊕ Int)
 | 0, _ => none
 | k + 1, i42 => sMO1.b1 x0 (sMO1.l1 x0 k) k i42
def sMO1.b0 (x0 : S33) (rec_ : Int → Option (Bool ⊕ Int)) (k95 : Nat) (i52 : Int) : Option (Bool ⊕ Int) := (if i52 < (x0.f5.length : Int) then (if 0 ≤ i52 ∧ i52 < (x0.f5.length : Int) then ((spec_LayerOk.g k95 (x0.f5.getD i52.toNat o52) x0.f0).bind fun t107 => (if t107 = true then (rec_ (wrap64 (i52 + 1))) else (some (Sum.inl false)))) else none) else (some (Sum.inr i52)))
def sMO1.l0 (x0 : S33) : Nat → Int → Option (Bool ⊕ Int)
 | 0, _ => none
 | k + 1, i52 => sMO1.b0 x0 (sMO1.l0 x0 k) k i52
def sMO1.g (k : Nat) (x0 : S33) : Option Bool := ((spec_l05Width.f x0.f0).bind fun t7 => (if t7 = true then (if x0.f1 = 1 then ((sMO.g k x0.f3).bind fun t16 => (if t16 = true then ((sV.g k x0).bind fun t24 => (if (x0.f4.length : Int) = t24 then ((sI.f (x0.f5.length : Int) 1 2).bind fun t32 => (if t32 = true then ((sMO1.l1 x0 k 0).bind (fun oc112 => match oc112 with | .inl r_ => some r_ | .inr i42 => ((sMO1.l0 x0 k 0).bind (fun oc93 => match oc93 with | .inl r_ => some r_ | .inr i52 => ((spec_GainOk.g k x0.f6 x0.f0).bind fun t62 => (if t62 = true then ((sV.g k x0).bind fun t74 => ((sM3.g k x0.f7 x0.f0 t74).bind fun t77 => (if t77 = true then (if x0.f1 ≠ 0 then ((sTO.g k x0.f8 x0.f2 (wrap64 (Int.tdiv (wrap64 (Int.tdiv x0.f0 x0.f1)) 2))).bind fun t90 => (some t90)) else none) else (some false)))) else (some false))))))) else (some false))) else (some false))) else (some false))) else (if x0.f1 = 2 then ((sMO.g k x0.f3).bind fun t142 => (if t142 = true then ((sV.g k x0).bind fun t150 => (if (x0.f4.length : Int) = t150 then ((sI.f (x0.f5.length : Int) 1 2).bind fun t158 => (if t158 = true then ((sMO1.l3 x0 k 0).bind (fun oc238 => match oc238 with | .inl r_ => some r_ | .inr i168 => ((sMO1.l2 x0 k 0).bind (fun oc219 => match oc219 with | .inl r_ => some r_ | .inr i178 => ((spec_GainOk.g k x0.f6 x0.f0).bind fun t188 => (if t188 = true then ((sV.g k x0).bind fun t200 => ((sM3.g k x0.f7 x0.f0 t200).bind fun t203 => (if t203 = true then (if x0.f1 ≠ 0 then ((sTO.g k x0.f8 x0.f2 (wrap64 (Int.tdiv (wrap64 (Int.tdiv x0.f0 x0.f1)) 2))).bind fun t216 => (some t216)) else none) else (some false)))) else (some false))))))) else (some false))) else (some false))) else (some false))) else (some false))) else (some false)))
theorem sMO1.runs (k : Nat) (cs0 : List Value) (x0 : S33) (r : Bool) (w : World) (hk0 : k33.K w x0 cs0) (H : sMO1.g k x0 = some r) :
   Calls prog 10 #[.agg cs0.toArray] w fun e w' => e = .returned (.bool r) ∧ Below w.heap.size w w' := by
 have el0 : cs0.length = 14 := k33.K_len hk0
 unfold sMO1.g at H
 have HS : St (fun _ => True) w w [] [(kF k33 x0 cs0)] [] := St.start (foot_cons (foot_K h33 hk0) foot_nil)
 refine cw_ (n := 108) func10 fun R_ hR_ => ?_
 refine sr_ fun _ hK1 => ?_
 refine bo_ HS (fun b2 w3 hb2 HS => ?_)
 refine ad_ hK1 ?_
 clear hK1
 refine WC.seq fun _ hK4 => ?_
 refine WC.seq fun _ hK5 => ?_
 refine WC.drawS HS [] rfl rfl (fun w6 HS => ?_)
 have HB := Below.refl w6.heap.size w6
 have HSW := HS
 refine df_ 0 underlying33 ?_
 refine bl_ 1 HS (Below.refl _ _) 0 underlying3 (at33_0 (HS.aO 0 rfl)).int ?_
 obtain ⟨t7, ha8, H⟩ := bind_some H
 exact by (
 refine dcs0_ HS HB 2 (w_none rfl) func31 (spec_l05Width.calls x0.f0 t7 _ ha8) (fun w9 HS HB => ?_)
 clear ha8
 refine dp_ 3 (fun _ => Run.not rfl rfl) ?_
 refine dm_ 4 ?_
 rcases eti_ H with ⟨c10, H⟩ | ⟨c10, H⟩
 · refine doT_ 5 (nB (bF c10)) ?_
   refine doT_ 6 (nB (bF c10)) ?_
   refine doT_ 7 (nB (bF c10)) ?_
   refine doT_ 8 (nB (bF c10)) ?_
   refine du_ 9 ?_
   refine du_ 10 ?_
   refine du_ 11 ?_
   refine doT_ 12 (nB (bF c10)) ?_
   refine dp_ 13 (fun _ => Run.pickT rfl rfl (nB (bF c10)) rfl) ?_
   refine dm_ 14 ?_
   refine doT_ 15 rfl ?_
   exact by (
   refine doT_ 16 rfl ?_
   refine doT_ 17 rfl ?_
   refine doT_ 18 rfl ?_
   refine dp_ 19 (fun _ => Run.pickT rfl rfl rfl rfl) ?_
   refine dm_ 20 ?_
   refine doT_ 21 rfl ?_
   refine doT_ 22 rfl ?_
   refine doT_ 23 rfl ?_
   refine doT_ 24 rfl ?_
   refine doT_ 25 rfl ?_
   refine doT_ 26 rfl ?_
   refine dp_ 27 (fun _ => Run.pickT rfl rfl rfl rfl) ?_
   refine dm_ 28 ?_
   refine doT_ 29 rfl ?_
   refine doT_ 30 rfl ?_
   refine doT_ 31 rfl ?_
   exact by (
   refine doT_ 32 rfl ?_
   refine doT_ 33 rfl ?_
   refine dp_ 34 (fun _ => Run.pickT rfl rfl rfl rfl) ?_
   refine dd_ ?_
   clear HB HSW
   refine via_ hK5 (wy_ rfl ?_)
   clear hK5
   refine sr_ fun _ hK264 => ?_
   refine ad_ hK264 ?_
   clear hK264
   obtain rfl := os H
   exact rt1 Try.f10 rfl rfl hR_ ⟨rfl, HS.b⟩ ))
 refine dfg_ 5 (nB c10) underlying33 ?_
 refine blg_ 6 (nB c10) HSW HB 0 underlying3 (at33_1 (HSW.aO 0 rfl)).int ?_
 refine dg_ 7 (nB c10) (fun _ => Run.bin rfl rfl rfl bin_neq) ?_
 refine dg_ 8 (nB c10) (fun _ => Run.move rfl rfl) ?_
 exact by (
 rcases ite_ H with ⟨c11, H⟩ | ⟨c11, H⟩
 · refine doF_ 9 (qF c11) ?_
   refine doF_ 10 (qF c11) ?_
   refine doF_ 11 (qF c11) ?_
   refine dg_ 12 (nB c10) (fun _ => Run.pickF rfl rfl (qF c11) rfl) ?_
   refine dp_ 13 (fun _ => Run.pickF rfl rfl (nB c10) rfl) ?_
   refine dm_ 14 ?_
   refine dfg_ 15 rfl underlying33 ?_
   obtain ⟨A12, c13, hc14, le15, HS⟩ := HS.sO 0 rfl at33_3
   refine blg_ 16 rfl HSW HB 0 underlying24 hc14 ?_
   obtain ⟨t16, ha17, H⟩ := bind_some H
   refine dcs_ HS HB 17 (w_on rfl rfl rfl rfl) func32 (sMO.runs k A12 c13 x0.f3 t16 _ (HS.getO 0 rfl) le15 ha17) (fun w18 HS HB => ?_)
   clear ha17
   refine dg_ 18 rfl (fun _ => Run.not rfl rfl) ?_
   refine dp_ 19 (fun _ => Run.pickF rfl rfl rfl rfl) ?_
   refine dm_ 20 ?_
   exact by (
   rcases eti_ H with ⟨c19, H⟩ | ⟨c19, H⟩
   · refine doT_ 21 (nB (bF c19)) ?_
     refine doT_ 22 (nB (bF c19)) ?_
     refine doT_ 23 (nB (bF c19)) ?_
     refine doT_ 24 (nB (bF c19)) ?_
     refine doT_ 25 (nB (bF c19)) ?_
     refine doT_ 26 (nB (bF c19)) ?_
     refine dp_ 27 (fun _ => Run.pickT rfl rfl (nB (bF c19)) rfl) ?_
     refine dm_ 28 ?_
     refine doT_ 29 rfl ?_
     refine doT_ 30 rfl ?_
     refine doT_ 31 rfl ?_
     refine doT_ 32 rfl ?_
     refine doT_ 33 rfl ?_
     refine dp_ 34 (fun _ => Run.pickT rfl rfl rfl rfl) ?_
     refine dd_ ?_
     exact by (
     clear HB HSW
     refine via_ hK5 (wy_ rfl ?_)
     clear hK5
     refine sr_ fun _ hK136 => ?_
     refine ad_ hK136 ?_
     clear hK136
     obtain rfl := os H
     exact rt1 Try.f10 rfl rfl hR_ ⟨rfl, HS.b⟩ )
   refine dfg_ 21 (nB c19) underlying33 ?_
   obtain ⟨A20, c21, hc22, le23, HS⟩ := HS.sO 1 rfl at33_4
   refine blg_ 22 (nB c19) HSW HB 0 underlying25 hc22 ?_
   refine dg_ 23 (nB c19) (fun _ => Run.len (ts := #[]) rfl underlying25 rfl) ?_
   refine dh_ 24 (nB c19) HB (fun w_ hw_ => Run.loadS (cs := cs0) rfl rfl underlying33 rfl (by rw [el0]; kernel_rfl) (box_part ((HSW.below hw_).mu 0 rfl) part_all)) ?_
   obtain ⟨t24, ha25, H⟩ := bind_some H
   refine dcs_ HS HB 25 (w_on rfl rfl rfl (nB c19)) func15 (sV.runs k cs0 x0 t24 _ (HS.getO 2 rfl) ha25) (fun w26 HS HB => ?_)
   clear ha25
   exact by (
   refine dg_ 26 (nB c19) (fun _ => Run.bin rfl rfl rfl bin_neq) ?_
   refine dp_ 27 (fun _ => Run.pickF rfl rfl (nB c19) rfl) ?_
   refine dm_ 28 ?_
   rcases eti_ H with ⟨c27, H⟩ | ⟨c27, H⟩
   · refine doT_ 29 (qT c27) ?_
     refine doT_ 30 (qT c27) ?_
     refine doT_ 31 (qT c27) ?_
     refine doT_ 32 (qT c27) ?_
     refine doT_ 33 (qT c27) ?_
     refine dp_ 34 (fun _ => Run.pickT rfl rfl (qT c27) rfl) ?_
     refine dd_ ?_
     clear HB HSW
     refine via_ hK5 (wy_ rfl ?_)
     clear hK5
     refine sr_ fun _ hK135 => ?_
     refine ad_ hK135 ?_
     exact by (
     clear hK135
     obtain rfl := os H
     exact rt1 Try.f10 rfl rfl hR_ ⟨rfl, HS.b⟩ )
   refine dfg_ 29 (qF c27) underlying33 ?_
   obtain ⟨A28, c29, hc30, le31, HS⟩ := HS.sO 2 rfl at33_5
   refine blg_ 30 (qF c27) HSW HB 0 underlying26 hc30 ?_
   refine dg_ 31 (qF c27) (fun _ => Run.len (ts := #[]) rfl underlying26 rfl) ?_
   obtain ⟨t32, ha33, H⟩ := bind_some H
   refine dcs0_ HS HB 32 (w_on rfl rfl rfl (qF c27)) func33 (sI.calls (x0.f5.length : Int) 1 2 t32 _ ha33) (fun w34 HS HB => ?_)
   clear ha33
   refine dg_ 33 (qF c27) (fun _ => Run.not rfl rfl) ?_
   refine dp_ 34 (fun _ => Run.pickF rfl rfl (qF c27) rfl) ?_
   refine dd_ ?_
   clear HB HSW
   refine via_ hK5 ?_
   clear hK5
   exact by (
   rcases eti_ H with ⟨c35, H⟩ | ⟨c35, H⟩
   · refine wy_ (nB (bF c35)) (sr_ fun _ hK134 => ?_)
     refine ad_ hK134 ?_
     clear hK134
     obtain rfl := os H
     exact rt1 Try.f10 rfl rfl hR_ ⟨rfl, HS.b⟩
   refine wn_ (nB c35) (WC.skip (via_ hK4 (WC.seq fun K36 hK36 => ?_)))
   clear hK4
   refine sr_ fun _ hK37 => ?_
   refine ad_ hK37 ?_
   clear hK37
   refine WC.block ?_
   obtain ⟨G38, hG39, oc40, H, Ho41⟩ := open_G H
   let J43 := fun (i42 : Int) (E_ : Env) (W_ : World) => E_ = [(1, .pointer (some ⟨b2, 0, none⟩)), (3, vi i42)] ∧ St (fun _ => True) w W_ [boxM b2 cs0.toArray 33] [(cF k52 A28 x0.f5), (cF kS3 A20 x0.f4), (cF k54 A12 x0.f3), (kF k33 x0 cs0)] []
   have X44 : ∀ E_ W_, (∃ i42, G38 (Sum.inr i42) = some r ∧ J43 i42 E_ W_) → ∀ a, Fits a 108 E_ → K36 a W_ := by
     rintro E_ w45 ⟨i42, H, rfl, HS⟩
     exact by (
     rw [hG39] at H
     (try dsimp only at H)
     refine hK36 _ _ ?_
     clear hK36
     refine WC.seq fun K46 hK46 => ?_
     refine sr_ fun _ hK47 => ?_
     refine ad_ hK47 ?_
     clear hK47
     refine WC.block ?_
     obtain ⟨G48, hG49, oc50, H, Ho51⟩ := open_G H
     let J53 := fun (i52 : Int) (E_ : Env) (W_ : World) => E_ = [(1, .pointer (some ⟨b2, 0, none⟩)), (4, vi i52)] ∧ St (fun _ => True) w W_ [boxM b2 cs0.toArray 33] [(cF k52 A28 x0.f5), (cF kS3 A20 x0.f4), (cF k54 A12 x0.f3), (kF k33 x0 cs0)] []
     have X54 : ∀ E_ W_, (∃ i52, G48 (Sum.inr i52) = some r ∧ J53 i52 E_ W_) → ∀ a, Fits a 108 E_ → K46 a W_ := by
       rintro E_ w55 ⟨i52, H, rfl, HS⟩
       rw [hG49] at H
       (try dsimp only at H)
       refine hK46 _ _ ?_
       exact by (
       clear hK46
       refine WC.seq fun _ hK56 => ?_
       refine WC.drawS HS [] rfl rfl (fun w57 HS => ?_)
       have HB := Below.refl w57.heap.size w57
       have HSW := HS
       refine df_ 0 underlying33 ?_
       refine df_ 2 underlying33 ?_
       obtain ⟨A58, c59, hc60, le61, HS⟩ := HS.sO 3 rfl at33_6
       refine bl_ 1 HS (Below.refl _ _) 0 underlying27 hc60 ?_
       refine bl_ 3 HS (Below.refl _ _) 0 underlying3 (at33_0 (HS.aO 4 rfl)).int ?_
       obtain ⟨t62, ha63, H⟩ := bind_some H
       refine dcs_ HS HB 4 (w_none rfl) func36 (spec_GainOk.runs k A58 c59 x0.f6 x0.f0 t62 _ (HS.getO 0 rfl) le61 ha63) (fun w64 HS HB => ?_)
       clear ha63
       refine dm_ 5 ?_
       rcases eti_ H with ⟨c65, H⟩ | ⟨c65, H⟩
       · refine doF_ 6 (bF c65) ?_
         exact by (
         refine doF_ 7 (bF c65) ?_
         refine doF_ 8 (bF c65) ?_
         refine doF_ 9 (bF c65) ?_
         refine doF_ 10 (bF c65) ?_
         refine doF_ 11 (bF c65) ?_
         refine doF_ 12 (bF c65) ?_
         refine dp_ 13 (fun _ => Run.pickF rfl rfl (bF c65) rfl) ?_
         refine dm_ 14 ?_
         refine doF_ 15 rfl ?_
         refine doF_ 16 rfl ?_
         refine doF_ 17 rfl ?_
         refine doF_ 18 rfl ?_
         refine doF_ 19 rfl ?_
         refine doF_ 20 rfl ?_
         refine doF_ 21 rfl ?_
         refine doF_ 22 rfl ?_
         exact by (
         refine doF_ 23 rfl ?_
         refine doF_ 24 rfl ?_
         refine doF_ 25 rfl ?_
         refine dp_ 26 (fun _ => Run.pickF rfl rfl rfl rfl) ?_
         refine dp_ 27 (fun _ => Run.assign rfl rfl) ?_
         refine dd_ ?_
         clear HB HSW
         refine via_ hK56 ?_
         clear hK56
         obtain rfl := os H
         exact rt1 Try.f10 rfl rfl hR_ ⟨rfl, HS.b⟩ ))
       refine dfg_ 6 c65 underlying33 ?_
       refine dfg_ 8 c65 underlying33 ?_
       obtain ⟨A66, c67, hc68, le69, HS⟩ := HS.sO 4 rfl at33_8
       obtain ⟨A70, c71, hc72, le73, HS⟩ := HS.sO 5 rfl at33_9
       refine dh_ 7 c65 HB (fun w_ hw_ => Run.loadS (cs := [vi x0.f7.f0, .slice A66 x0.f7.f1.length c67, .slice A70 x0.f7.f2.length c71, vi x0.f7.f3, vi x0.f7.f4]) rfl rfl underlying29 rfl (by kernel_rfl) (box_part ((HSW.below hw_).mu 0 rfl) (part_cons (at33_7 ((HSW.below hw_).aO 3 rfl)).int (part_cons hc68 (part_cons hc72 (part_cons (at33_10 ((HSW.below hw_).aO 3 rfl)).int (part_cons (at33_11 ((HSW.below hw_).aO 3 rfl)).int part_nil))))))) ?_
       exact by (
       refine blg_ 9 c65 HSW HB 0 underlying3 (at33_0 (HSW.aO 3 rfl)).int ?_
       refine dh_ 10 c65 HB (fun w_ hw_ => Run.loadS (cs := cs0) rfl rfl underlying33 rfl (by rw [el0]; kernel_rfl) (box_part ((HSW.below hw_).mu 0 rfl) part_all)) ?_
       obtain ⟨t74, ha75, H⟩ := bind_some H
       refine dcs_ HS HB 11 (w_on rfl rfl rfl c65) func15 (sV.runs k cs0 x0 t74 _ (HS.getO 6 rfl) ha75) (fun w76 HS HB => ?_)
       clear ha75
       obtain ⟨t77, ha78, H⟩ := bind_some H
       refine dcs_ HS HB 12 (w_on rfl rfl rfl c65) func37 (sM3.runs k x0.f7 A66 c67 A70 c71 x0.f0 t74 t77 _ (HS.getO 1 rfl) le69 (HS.getO 0 rfl) le73 ha78) (fun w79 HS HB => ?_)
       clear ha78
       refine dp_ 13 (fun _ => Run.pickT rfl rfl c65 rfl) ?_
       refine dm_ 14 ?_
       rcases eti_ H with ⟨c80, H⟩ | ⟨c80, H⟩
       · refine doF_ 15 (bF c80) ?_
         refine doF_ 16 (bF c80) ?_
         refine doF_ 17 (bF c80) ?_
         refine doF_ 18 (bF c80) ?_
         refine doF_ 19 (bF c80) ?_
         exact by (
         refine doF_ 20 (bF c80) ?_
         refine doF_ 21 (bF c80) ?_
         refine doF_ 22 (bF c80) ?_
         refine doF_ 23 (bF c80) ?_
         refine doF_ 24 (bF c80) ?_
         refine doF_ 25 (bF c80) ?_
         refine dp_ 26 (fun _ => Run.pickF rfl rfl (bF c80) rfl) ?_
         refine dp_ 27 (fun _ => Run.assign rfl rfl) ?_
         refine dd_ ?_
         clear HB HSW
         refine via_ hK56 ?_
         clear hK56
         obtain rfl := os H
         exact rt1 Try.f10 rfl rfl hR_ ⟨rfl, HS.b⟩ )
       refine dfg_ 15 c80 underlying33 ?_
       refine dfg_ 17 c80 underlying33 ?_
       exact by (
       refine dfg_ 19 c80 underlying33 ?_
       refine dfg_ 21 c80 underlying33 ?_
       obtain ⟨A81, c82, hc83, le84, HS⟩ := HS.sO 6 rfl at33_12
       obtain ⟨A85, c86, hc87, le88, HS⟩ := HS.sO 7 rfl at33_13
       refine dh_ 16 c80 HB (fun w_ hw_ => Run.loadS (cs := [.slice A81 x0.f8.f0.length c82, .slice A85 x0.f8.f1.length c86]) rfl rfl underlying31 rfl (by kernel_rfl) (box_part ((HSW.below hw_).mu 0 rfl) (part_cons hc83 (part_cons hc87 part_nil)))) ?_
       refine blg_ 18 c80 HSW HB 0 underlying3 (at33_2 (HSW.aO 3 rfl)).int ?_
       refine blg_ 20 c80 HSW HB 0 underlying3 (at33_0 (HSW.aO 3 rfl)).int ?_
       refine blg_ 22 c80 HSW HB 0 underlying3 (at33_1 (HSW.aO 3 rfl)).int ?_
       obtain ⟨z89, H⟩ := if_some H
       refine dg_ 23 c80 (fun _ => Run.bin rfl rfl rfl (bin_quo64 z89)) ?_
       refine dg_ 24 c80 (fun _ => Run.bin rfl rfl rfl (bin_quo64 (show (2 : Int) ≠ 0 by decide))) ?_
       obtain ⟨t90, ha91, H⟩ := bind_some H
       refine dcs_ HS HB 25 (w_on rfl rfl rfl c80) func38 (sTO.runs k x0.f8 A81 c82 A85 c86 x0.f2 (wrap64 (Int.tdiv (wrap64 (Int.tdiv x0.f0 x0.f1)) 2)) t90 _ (HS.getO 1 rfl) le84 (HS.getO 0 rfl) le88 ha91) (fun w92 HS HB => ?_)
       clear ha91
       refine dp_ 26 (fun _ => Run.pickT rfl rfl c80 rfl) ?_
       refine dp_ 27 (fun _ => Run.assign rfl rfl) ?_
       exact by (
       refine dd_ ?_
       clear HB HSW
       refine via_ hK56 ?_
       clear hK56
       obtain rfl := os H
       exact rt1 Try.f10 rfl rfl hR_ ⟨rfl, HS.b⟩ ))))
     clear hK46
     refine WC.loop (fun k_ E_ W_ => ∃ i52, (∃ o_, sMO1.l0 x0 k_ i52 = some o_ ∧ G48 o_ = some r) ∧ J53 i52 E_ W_) k ⟨0, ⟨_, H, Ho51⟩, rfl, HS⟩ (sb rfl) ?_
     rintro k_ E_ w94 ⟨i52, ⟨oc50, H, Ho51⟩, rfl, HS⟩
     rcases k_ with _ | k95
     · exact no_ H
     replace H : sMO1.b0 x0 (sMO1.l0 x0 k95) k95 i52 = some oc50 := H
     unfold sMO1.b0 at H
     refine WC.seq fun _ hK96 => ?_
     refine sr_ fun _ hK97 => ?_
     refine mv_ ?_
     exact by (
     refine v_ (fa_ underlying33) ?_
     refine v_ (lb_ (HS.mu 0 rfl) underlying26 hc30) ?_
     refine ln_ underlying26 ?_
     refine b_ bin_lss ?_
     refine dn_ hK97 ?_
     clear hK97
     rcases eti_ H with ⟨c98, H⟩ | ⟨c98, H⟩
     · refine wn_ (dF c98) (WC.exit ?_)
       obtain rfl := os H
       exact wv_ iq X54 ⟨i52, Ho51, rfl, HS⟩
     refine wy_ (dT c98) (WC.skip (via_ hK96 (WC.seq fun _ hK99 => ?_)))
     clear hK96
     refine WC.block (WC.seq fun _ hK100 => ?_)
     refine WC.drawS HS [] rfl rfl (fun w101 HS => ?_)
     have HB := Below.refl w101.heap.size w101
     have HSW := HS
     exact by (
     refine df_ 0 underlying33 ?_
     refine dm_ 2 ?_
     refine df_ 5 underlying33 ?_
     refine bl_ 1 HS (Below.refl _ _) 0 underlying26 hc30 ?_
     obtain ⟨⟨q102, q103⟩, H⟩ := if_some H
     obtain ⟨ad104, rfl⟩ := C_open (HS.getO 0 rfl) (by omega)
     refine di_ 3 underlying26 32 q102 q103 ?_
     obtain ⟨e105, el106, HS⟩ := HS.elO 0 rfl (by decide) o52 i52 q102 q103
     replace HS := HS.deriveO (p := (kF k52 (x0.f5.getD i52.toNat o52) e105)) (fun W_ hO_ hN_ => hO_.1.1)
     refine dt_ 4 (Below.refl _ _) (fun w_ hw_ => Run.loadS (cs := e105) rfl rfl underlying52 rfl (by rw [el106]; kernel_rfl) ((HS.below hw_).getO 1 rfl).2) ?_
     refine bl_ 6 HS (Below.refl _ _) 0 underlying3 (at33_0 (HS.aO 5 rfl)).int ?_
     obtain ⟨t107, ha108, H⟩ := bind_some H
     refine dcs_ HS HB 7 (w_none rfl) func35 (spec_LayerOk.runs k95 e105 (x0.f5.getD i52.toNat o52) x0.f0 t107 _ (HS.getO 0 rfl) ha108) (fun w109 HS HB => ?_)
     clear ha108
     refine dp_ 8 (fun _ => Run.not rfl rfl) ?_
     refine dd_ ?_
     exact by (
     clear HB HSW
     refine via_ hK100 ?_
     clear hK100
     rcases ite_ H with ⟨c110, H⟩ | ⟨c110, H⟩
     · refine wn_ (nB c110) (WC.skip (via_ hK99 (rg_ (mv_ ?_))))
       clear hK99
       refine b_ bin_add64 ?_
       refine as_ ?_
       refine WL.done ?_
       exact wr_ k95 iq ⟨(wrap64 (i52 + 1)), ⟨_, H, Ho51⟩, rfl, (St.pk HS [2, 3, 4, 5] [] rfl rfl)⟩
     refine wy_ (nB (bF c110)) (sr_ fun _ hK111 => ?_)
     refine ad_ hK111 ?_
     clear hK111
     refine WC.ret ?_
     obtain rfl := os H
     rw [hG49] at Ho51
     exact by (
     replace H : some _ = some _ := Ho51
     obtain rfl := os H
     exact fin1 Try.f10 rfl rfl hR_ ⟨rfl, HS.b⟩ )))))
   clear hK36
   refine WC.loop (fun k_ E_ W_ => ∃ i42, (∃ o_, sMO1.l1 x0 k_ i42 = some o_ ∧ G38 o_ = some r) ∧ J43 i42 E_ W_) k ⟨0, ⟨_, H, Ho41⟩, rfl, HS⟩ (sb rfl) ?_
   rintro k_ E_ w113 ⟨i42, ⟨oc40, H, Ho41⟩, rfl, HS⟩
   rcases k_ with _ | k114
   · exact no_ H
   replace H : sMO1.b1 x0 (sMO1.l1 x0 k114) k114 i42 = some oc40 := H
   unfold sMO1.b1 at H
   refine WC.seq fun _ hK115 => ?_
   refine sr_ fun _ hK116 => ?_
   refine mv_ ?_
   refine v_ (fa_ underlying33) ?_
   refine v_ (lb_ (HS.mu 0 rfl) underlying25 hc22) ?_
   refine ln_ underlying25 ?_
   exact by (
   refine b_ bin_lss ?_
   refine dn_ hK116 ?_
   clear hK116
   rcases eti_ H with ⟨c117, H⟩ | ⟨c117, H⟩
   · refine wn_ (dF c117) (WC.exit ?_)
     obtain rfl := os H
     exact wv_ iq X44 ⟨i42, Ho41, rfl, HS⟩
   refine wy_ (dT c117) (WC.skip (via_ hK115 (WC.seq fun _ hK118 => ?_)))
   clear hK115
   refine WC.block (WC.seq fun _ hK119 => ?_)
   refine WC.drawS HS [] rfl rfl (fun w120 HS => ?_)
   have HB := Below.refl w120.heap.size w120
   have HSW := HS
   refine df_ 0 underlying33 ?_
   refine dm_ 2 ?_
   refine df_ 6 underlying33 ?_
   exact by (
   refine bl_ 1 HS (Below.refl _ _) 0 underlying25 hc22 ?_
   obtain ⟨⟨q121, q122⟩, H⟩ := if_some H
   obtain ⟨ad123, rfl⟩ := C_open (HS.getO 1 rfl) (by omega)
   refine di_ 3 underlying25 1 q121 q122 ?_
   obtain ⟨A124, c125, le126, HS⟩ := HS.slO 1 rfl i42 q121 q122
   refine dt_ 4 (Below.refl _ _) (fun w_ hw_ => Run.load rfl rfl underlying27 rfl ((HS.below hw_).getO 1 rfl)) ?_
   refine dp_ 5 (fun _ => Run.len (ts := #[]) rfl underlying27 rfl) ?_
   refine bl_ 7 HS (Below.refl _ _) 0 underlying3 (at33_0 (HS.aO 5 rfl)).int ?_
   refine dp_ 8 (fun _ => Run.bin rfl rfl rfl bin_neq) ?_
   refine dm_ 9 ?_
   rcases eti_ H with ⟨c127, H⟩ | ⟨c127, H⟩
   · refine doT_ 10 (qT c127) ?_
     refine doT_ 11 (qT c127) ?_
     refine doT_ 12 (qT c127) ?_
     refine doT_ 13 (qT c127) ?_
     refine doT_ 14 (qT c127) ?_
     exact by (
     refine doT_ 15 (qT c127) ?_
     refine doT_ 16 (qT c127) ?_
     refine dp_ 17 (fun _ => Run.pickT rfl rfl (qT c127) rfl) ?_
     refine dd_ ?_
     clear HB HSW
     refine via_ hK119 (wy_ rfl ?_)
     clear hK119
     refine sr_ fun _ hK133 => ?_
     refine ad_ hK133 ?_
     clear hK133
     refine WC.ret ?_
     obtain rfl := os H
     rw [hG39] at Ho41
     replace H : some _ = some _ := Ho41
     obtain rfl := os H
     exact fin1 Try.f10 rfl rfl hR_ ⟨rfl, HS.b⟩ )
   exact by (
   refine dfg_ 10 (qF c127) underlying33 ?_
   refine dg_ 12 (qF c127) (fun _ => Run.move rfl rfl) ?_
   refine blg_ 11 (qF c127) HS (Below.refl _ _) 0 underlying25 hc22 ?_
   refine dg_ 13 (qF c127) (fun _ => Run.indexAddr rfl rfl rfl underlying25 (sz := 1) (by kernel_rfl) q121 q122) ?_
   refine dh_ 14 (qF c127) (Below.refl _ _) (fun w_ hw_ => Run.load rfl rfl underlying27 rfl ((HS.below hw_).getO 1 rfl)) ?_
   obtain ⟨t128, ha129, H⟩ := bind_some H
   refine dcs_ HS HB 15 (w_on rfl rfl rfl (qF c127)) func34 (sA.runs k114 A124 c125 (x0.f4.getD i42.toNat []) (-127) 127 t128 _ (HS.getO 0 rfl) le126 ha129) (fun w130 HS HB => ?_)
   clear ha129
   refine dg_ 16 (qF c127) (fun _ => Run.not rfl rfl) ?_
   refine dp_ 17 (fun _ => Run.pickF rfl rfl (qF c127) rfl) ?_
   refine dd_ ?_
   clear HB HSW
   refine via_ hK119 ?_
   clear hK119
   rcases ite_ H with ⟨c131, H⟩ | ⟨c131, H⟩
   · refine wn_ (nB c131) (WC.skip (via_ hK118 (rg_ (mv_ ?_))))
     exact by (
     clear hK118
     refine b_ bin_add64 ?_
     refine as_ ?_
     refine WL.done ?_
     exact wr_ k114 iq ⟨(wrap64 (i42 + 1)), ⟨_, H, Ho41⟩, rfl, (St.pk HS [2, 3, 4, 5] [] rfl rfl)⟩ )
   refine wy_ (nB (bF c131)) (sr_ fun _ hK132 => ?_)
   refine ad_ hK132 ?_
   clear hK132
   refine WC.ret ?_
   obtain rfl := os H
   rw [hG39] at Ho41
   replace H : some _ = some _ := Ho41
   obtain rfl := os H
   exact fin1 Try.f10 rfl rfl hR_ ⟨rfl, HS.b⟩ ))))))
 refine dfg_ 9 (qT c11) underlying33 ?_
 refine blg_ 10 (qT c11) HSW HB 0 underlying3 (at33_1 (HSW.aO 0 rfl)).int ?_
 exact by (
 refine dg_ 11 (qT c11) (fun _ => Run.bin rfl rfl rfl bin_neq) ?_
 refine dg_ 12 (nB c10) (fun _ => Run.pickT rfl rfl (qT c11) rfl) ?_
 refine dp_ 13 (fun _ => Run.pickF rfl rfl (nB c10) rfl) ?_
 refine dm_ 14 ?_
 rcases eti_ H with ⟨c137, H⟩ | ⟨c137, H⟩
 · refine doT_ 15 (qT c137) ?_
   refine doT_ 16 (qT c137) ?_
   refine doT_ 17 (qT c137) ?_
   refine doT_ 18 (qT c137) ?_
   refine dp_ 19 (fun _ => Run.pickT rfl rfl (qT c137) rfl) ?_
   refine dm_ 20 ?_
   refine doT_ 21 rfl ?_
   refine doT_ 22 rfl ?_
   refine doT_ 23 rfl ?_
   refine doT_ 24 rfl ?_
   refine doT_ 25 rfl ?_
   exact by (
   refine doT_ 26 rfl ?_
   refine dp_ 27 (fun _ => Run.pickT rfl rfl rfl rfl) ?_
   refine dm_ 28 ?_
   refine doT_ 29 rfl ?_
   refine doT_ 30 rfl ?_
   refine doT_ 31 rfl ?_
   refine doT_ 32 rfl ?_
   refine doT_ 33 rfl ?_
   refine dp_ 34 (fun _ => Run.pickT rfl rfl rfl rfl) ?_
   refine dd_ ?_
   clear HB HSW
   refine via_ hK5 (wy_ rfl ?_)
   clear hK5
   refine sr_ fun _ hK263 => ?_
   refine ad_ hK263 ?_
   clear hK263
   obtain rfl := os H
   exact rt1 Try.f10 rfl rfl hR_ ⟨rfl, HS.b⟩ )
 exact by (
 refine dfg_ 15 (qF c137) underlying33 ?_
 obtain ⟨A138, c139, hc140, le141, HS⟩ := HS.sO 0 rfl at33_3
 refine blg_ 16 (qF c137) HSW HB 0 underlying24 hc140 ?_
 obtain ⟨t142, ha143, H⟩ := bind_some H
 refine dcs_ HS HB 17 (w_on rfl rfl rfl (qF c137)) func32 (sMO.runs k A138 c139 x0.f3 t142 _ (HS.getO 0 rfl) le141 ha143) (fun w144 HS HB => ?_)
 clear ha143
 refine dg_ 18 (qF c137) (fun _ => Run.not rfl rfl) ?_
 refine dp_ 19 (fun _ => Run.pickF rfl rfl (qF c137) rfl) ?_
 refine dm_ 20 ?_
 rcases eti_ H with ⟨c145, H⟩ | ⟨c145, H⟩
 · refine doT_ 21 (nB (bF c145)) ?_
   refine doT_ 22 (nB (bF c145)) ?_
   refine doT_ 23 (nB (bF c145)) ?_
   refine doT_ 24 (nB (bF c145)) ?_
   refine doT_ 25 (nB (bF c145)) ?_
   refine doT_ 26 (nB (bF c145)) ?_
   exact by (
   refine dp_ 27 (fun _ => Run.pickT rfl rfl (nB (bF c145)) rfl) ?_
   refine dm_ 28 ?_
   refine doT_ 29 rfl ?_
   refine doT_ 30 rfl ?_
   refine doT_ 31 rfl ?_
   refine doT_ 32 rfl ?_
   refine doT_ 33 rfl ?_
   refine dp_ 34 (fun _ => Run.pickT rfl rfl rfl rfl) ?_
   refine dd_ ?_
   clear HB HSW
   refine via_ hK5 (wy_ rfl ?_)
   clear hK5
   refine sr_ fun _ hK262 => ?_
   refine ad_ hK262 ?_
   clear hK262
   obtain rfl := os H
   exact rt1 Try.f10 rfl rfl hR_ ⟨rfl, HS.b⟩ )
 exact by (
 refine dfg_ 21 (nB c145) underlying33 ?_
 obtain ⟨A146, c147, hc148, le149, HS⟩ := HS.sO 1 rfl at33_4
 refine blg_ 22 (nB c145) HSW HB 0 underlying25 hc148 ?_
 refine dg_ 23 (nB c145) (fun _ => Run.len (ts := #[]) rfl underlying25 rfl) ?_
 refine dh_ 24 (nB c145) HB (fun w_ hw_ => Run.loadS (cs := cs0) rfl rfl underlying33 rfl (by rw [el0]; kernel_rfl) (box_part ((HSW.below hw_).mu 0 rfl) part_all)) ?_
 obtain ⟨t150, ha151, H⟩ := bind_some H
 refine dcs_ HS HB 25 (w_on rfl rfl rfl (nB c145)) func15 (sV.runs k cs0 x0 t150 _ (HS.getO 2 rfl) ha151) (fun w152 HS HB => ?_)
 clear ha151
 refine dg_ 26 (nB c145) (fun _ => Run.bin rfl rfl rfl bin_neq) ?_
 refine dp_ 27 (fun _ => Run.pickF rfl rfl (nB c145) rfl) ?_
 refine dm_ 28 ?_
 rcases eti_ H with ⟨c153, H⟩ | ⟨c153, H⟩
 · refine doT_ 29 (qT c153) ?_
   refine doT_ 30 (qT c153) ?_
   refine doT_ 31 (qT c153) ?_
   refine doT_ 32 (qT c153) ?_
   exact by (
   refine doT_ 33 (qT c153) ?_
   refine dp_ 34 (fun _ => Run.pickT rfl rfl (qT c153) rfl) ?_
   refine dd_ ?_
   clear HB HSW
   refine via_ hK5 (wy_ rfl ?_)
   clear hK5
   refine sr_ fun _ hK261 => ?_
   refine ad_ hK261 ?_
   clear hK261
   obtain rfl := os H
   exact rt1 Try.f10 rfl rfl hR_ ⟨rfl, HS.b⟩ )
 refine dfg_ 29 (qF c153) underlying33 ?_
 obtain ⟨A154, c155, hc156, le157, HS⟩ := HS.sO 2 rfl at33_5
 refine blg_ 30 (qF c153) HSW HB 0 underlying26 hc156 ?_
 refine dg_ 31 (qF c153) (fun _ => Run.len (ts := #[]) rfl underlying26 rfl) ?_
 obtain ⟨t158, ha159, H⟩ := bind_some H
 exact by (
 refine dcs0_ HS HB 32 (w_on rfl rfl rfl (qF c153)) func33 (sI.calls (x0.f5.length : Int) 1 2 t158 _ ha159) (fun w160 HS HB => ?_)
 clear ha159
 refine dg_ 33 (qF c153) (fun _ => Run.not rfl rfl) ?_
 refine dp_ 34 (fun _ => Run.pickF rfl rfl (qF c153) rfl) ?_
 refine dd_ ?_
 clear HB HSW
 refine via_ hK5 ?_
 clear hK5
 rcases eti_ H with ⟨c161, H⟩ | ⟨c161, H⟩
 · refine wy_ (nB (bF c161)) (sr_ fun _ hK260 => ?_)
   refine ad_ hK260 ?_
   clear hK260
   obtain rfl := os H
   exact rt1 Try.f10 rfl rfl hR_ ⟨rfl, HS.b⟩
 refine wn_ (nB c161) (WC.skip (via_ hK4 (WC.seq fun K162 hK162 => ?_)))
 clear hK4
 exact by (
 refine sr_ fun _ hK163 => ?_
 refine ad_ hK163 ?_
 clear hK163
 refine WC.block ?_
 obtain ⟨G164, hG165, oc166, H, Ho167⟩ := open_G H
 let J169 := fun (i168 : Int) (E_ : Env) (W_ : World) => E_ = [(1, .pointer (some ⟨b2, 0, none⟩)), (3, vi i168)] ∧ St (fun _ => True) w W_ [boxM b2 cs0.toArray 33] [(cF k52 A154 x0.f5), (cF kS3 A146 x0.f4), (cF k54 A138 x0.f3), (kF k33 x0 cs0)] []
 have X170 : ∀ E_ W_, (∃ i168, G164 (Sum.inr i168) = some r ∧ J169 i168 E_ W_) → ∀ a, Fits a 108 E_ → K162 a W_ := by
   rintro E_ w171 ⟨i168, H, rfl, HS⟩
   rw [hG165] at H
   (try dsimp only at H)
   refine hK162 _ _ ?_
   clear hK162
   refine WC.seq fun K172 hK172 => ?_
   refine sr_ fun _ hK173 => ?_
   refine ad_ hK173 ?_
   clear hK173
   exact by (
   refine WC.block ?_
   obtain ⟨G174, hG175, oc176, H, Ho177⟩ := open_G H
   let J179 := fun (i178 : Int) (E_ : Env) (W_ : World) => E_ = [(1, .pointer (some ⟨b2, 0, none⟩)), (4, vi i178)] ∧ St (fun _ => True) w W_ [boxM b2 cs0.toArray 33] [(cF k52 A154 x0.f5), (cF kS3 A146 x0.f4), (cF k54 A138 x0.f3), (kF k33 x0 cs0)] []
   have X180 : ∀ E_ W_, (∃ i178, G174 (Sum.inr i178) = some r ∧ J179 i178 E_ W_) → ∀ a, Fits a 108 E_ → K172 a W_ := by
     rintro E_ w181 ⟨i178, H, rfl, HS⟩
     rw [hG175] at H
     (try dsimp only at H)
     refine hK172 _ _ ?_
     clear hK172
     refine WC.seq fun _ hK182 => ?_
     refine WC.drawS HS [] rfl rfl (fun w183 HS => ?_)
     have HB := Below.refl w183.heap.size w183
     have HSW := HS
     refine df_ 0 underlying33 ?_
     refine df_ 2 underlying33 ?_
     obtain ⟨A184, c185, hc186, le187, HS⟩ := HS.sO 3 rfl at33_6
     exact by (
     refine bl_ 1 HS (Below.refl _ _) 0 underlying27 hc186 ?_
     refine bl_ 3 HS (Below.refl _ _) 0 underlying3 (at33_0 (HS.aO 4 rfl)).int ?_
     obtain ⟨t188, ha189, H⟩ := bind_some H
     refine dcs_ HS HB 4 (w_none rfl) func36 (spec_GainOk.runs k A184 c185 x0.f6 x0.f0 t188 _ (HS.getO 0 rfl) le187 ha189) (fun w190 HS HB => ?_)
     clear ha189
     refine dm_ 5 ?_
     rcases eti_ H with ⟨c191, H⟩ | ⟨c191, H⟩
     · refine doF_ 6 (bF c191) ?_
       refine doF_ 7 (bF c191) ?_
       refine doF_ 8 (bF c191) ?_
       refine doF_ 9 (bF c191) ?_
       refine doF_ 10 (bF c191) ?_
       refine doF_ 11 (bF c191) ?_
       refine doF_ 12 (bF c191) ?_
       refine dp_ 13 (fun _ => Run.pickF rfl rfl (bF c191) rfl) ?_
       refine dm_ 14 ?_
       exact by (
       refine doF_ 15 rfl ?_
       refine doF_ 16 rfl ?_
       refine doF_ 17 rfl ?_
       refine doF_ 18 rfl ?_
       refine doF_ 19 rfl ?_
       refine doF_ 20 rfl ?_
       refine doF_ 21 rfl ?_
       refine doF_ 22 rfl ?_
       refine doF_ 23 rfl ?_
       refine doF_ 24 rfl ?_
       refine doF_ 25 rfl ?_
       refine dp_ 26 (fun _ => Run.pickF rfl rfl rfl rfl) ?_
       refine dp_ 27 (fun _ => Run.assign rfl rfl) ?_
       refine dd_ ?_
       clear HB HSW
       refine via_ hK182 ?_
       exact by (
       clear hK182
       obtain rfl := os H
       exact rt1 Try.f10 rfl rfl hR_ ⟨rfl, HS.b⟩ ))
     refine dfg_ 6 c191 underlying33 ?_
     refine dfg_ 8 c191 underlying33 ?_
     obtain ⟨A192, c193, hc194, le195, HS⟩ := HS.sO 4 rfl at33_8
     obtain ⟨A196, c197, hc198, le199, HS⟩ := HS.sO 5 rfl at33_9
     refine dh_ 7 c191 HB (fun w_ hw_ => Run.loadS (cs := [vi x0.f7.f0, .slice A192 x0.f7.f1.length c193, .slice A196 x0.f7.f2.length c197, vi x0.f7.f3, vi x0.f7.f4]) rfl rfl underlying29 rfl (by kernel_rfl) (box_part ((HSW.below hw_).mu 0 rfl) (part_cons (at33_7 ((HSW.below hw_).aO 3 rfl)).int (part_cons hc194 (part_cons hc198 (part_cons (at33_10 ((HSW.below hw_).aO 3 rfl)).int (part_cons (at33_11 ((HSW.below hw_).aO 3 rfl)).int part_nil))))))) ?_
     refine blg_ 9 c191 HSW HB 0 underlying3 (at33_0 (HSW.aO 3 rfl)).int ?_
     refine dh_ 10 c191 HB (fun w_ hw_ => Run.loadS (cs := cs0) rfl rfl underlying33 rfl (by rw [el0]; kernel_rfl) (box_part ((HSW.below hw_).mu 0 rfl) part_all)) ?_
     obtain ⟨t200, ha201, H⟩ := bind_some H
     refine dcs_ HS HB 11 (w_on rfl rfl rfl c191) func15 (sV.runs k cs0 x0 t200 _ (HS.getO 6 rfl) ha201) (fun w202 HS HB => ?_)
     clear ha201
     obtain ⟨t203, ha204, H⟩ := bind_some H
     refine dcs_ HS HB 12 (w_on rfl rfl rfl c191) func37 (sM3.runs k x0.f7 A192 c193 A196 c197 x0.f0 t200 t203 _ (HS.getO 1 rfl) le195 (HS.getO 0 rfl) le199 ha204) (fun w205 HS HB => ?_)
     clear ha204
     exact by (
     refine dp_ 13 (fun _ => Run.pickT rfl rfl c191 rfl) ?_
     refine dm_ 14 ?_
     rcases eti_ H with ⟨c206, H⟩ | ⟨c206, H⟩
     · refine doF_ 15 (bF c206) ?_
       refine doF_ 16 (bF c206) ?_
       refine doF_ 17 (bF c206) ?_
       refine doF_ 18 (bF c206) ?_
       refine doF_ 19 (bF c206) ?_
       refine doF_ 20 (bF c206) ?_
       refine doF_ 21 (bF c206) ?_
       refine doF_ 22 (bF c206) ?_
       refine doF_ 23 (bF c206) ?_
       refine doF_ 24 (bF c206) ?_
       refine doF_ 25 (bF c206) ?_
       refine dp_ 26 (fun _ => Run.pickF rfl rfl (bF c206) rfl) ?_
       refine dp_ 27 (fun _ => Run.assign rfl rfl) ?_
       exact by (
       refine dd_ ?_
       clear HB HSW
       refine via_ hK182 ?_
       clear hK182
       obtain rfl := os H
       exact rt1 Try.f10 rfl rfl hR_ ⟨rfl, HS.b⟩ )
     refine dfg_ 15 c206 underlying33 ?_
     refine dfg_ 17 c206 underlying33 ?_
     refine dfg_ 19 c206 underlying33 ?_
     refine dfg_ 21 c206 underlying33 ?_
     obtain ⟨A207, c208, hc209, le210, HS⟩ := HS.sO 6 rfl at33_12
     obtain ⟨A211, c212, hc213, le214, HS⟩ := HS.sO 7 rfl at33_13
     refine dh_ 16 c206 HB (fun w_ hw_ => Run.loadS (cs := [.slice A207 x0.f8.f0.length c208, .slice A211 x0.f8.f1.length c212]) rfl rfl underlying31 rfl (by kernel_rfl) (box_part ((HSW.below hw_).mu 0 rfl) (part_cons hc209 (part_cons hc213 part_nil)))) ?_
     refine blg_ 18 c206 HSW HB 0 underlying3 (at33_2 (HSW.aO 3 rfl)).int ?_
     refine blg_ 20 c206 HSW HB 0 underlying3 (at33_0 (HSW.aO 3 rfl)).int ?_
     refine blg_ 22 c206 HSW HB 0 underlying3 (at33_1 (HSW.aO 3 rfl)).int ?_
     exact by (
     obtain ⟨z215, H⟩ := if_some H
     refine dg_ 23 c206 (fun _ => Run.bin rfl rfl rfl (bin_quo64 z215)) ?_
     refine dg_ 24 c206 (fun _ => Run.bin rfl rfl rfl (bin_quo64 (show (2 : Int) ≠ 0 by decide))) ?_
     obtain ⟨t216, ha217, H⟩ := bind_some H
     refine dcs_ HS HB 25 (w_on rfl rfl rfl c206) func38 (sTO.runs k x0.f8 A207 c208 A211 c212 x0.f2 (wrap64 (Int.tdiv (wrap64 (Int.tdiv x0.f0 x0.f1)) 2)) t216 _ (HS.getO 1 rfl) le210 (HS.getO 0 rfl) le214 ha217) (fun w218 HS HB => ?_)
     clear ha217
     refine dp_ 26 (fun _ => Run.pickT rfl rfl c206 rfl) ?_
     refine dp_ 27 (fun _ => Run.assign rfl rfl) ?_
     refine dd_ ?_
     clear HB HSW
     refine via_ hK182 ?_
     clear hK182
     obtain rfl := os H
     exact rt1 Try.f10 rfl rfl hR_ ⟨rfl, HS.b⟩ )))
   clear hK172
   refine WC.loop (fun k_ E_ W_ => ∃ i178, (∃ o_, sMO1.l2 x0 k_ i178 = some o_ ∧ G174 o_ = some r) ∧ J179 i178 E_ W_) k ⟨0, ⟨_, H, Ho177⟩, rfl, HS⟩ (sb rfl) ?_
   exact by (
   rintro k_ E_ w220 ⟨i178, ⟨oc176, H, Ho177⟩, rfl, HS⟩
   rcases k_ with _ | k221
   · exact no_ H
   replace H : sMO1.b2 x0 (sMO1.l2 x0 k221) k221 i178 = some oc176 := H
   unfold sMO1.b2 at H
   refine WC.seq fun _ hK222 => ?_
   refine sr_ fun _ hK223 => ?_
   refine mv_ ?_
   refine v_ (fa_ underlying33) ?_
   refine v_ (lb_ (HS.mu 0 rfl) underlying26 hc156) ?_
   refine ln_ underlying26 ?_
   refine b_ bin_lss ?_
   refine dn_ hK223 ?_
   clear hK223
   rcases eti_ H with ⟨c224, H⟩ | ⟨c224, H⟩
   · refine wn_ (dF c224) (WC.exit ?_)
     obtain rfl := os H
     exact wv_ iq X180 ⟨i178, Ho177, rfl, HS⟩
   exact by (
   refine wy_ (dT c224) (WC.skip (via_ hK222 (WC.seq fun _ hK225 => ?_)))
   clear hK222
   refine WC.block (WC.seq fun _ hK226 => ?_)
   refine WC.drawS HS [] rfl rfl (fun w227 HS => ?_)
   have HB := Below.refl w227.heap.size w227
   have HSW := HS
   refine df_ 0 underlying33 ?_
   refine dm_ 2 ?_
   refine df_ 5 underlying33 ?_
   refine bl_ 1 HS (Below.refl _ _) 0 underlying26 hc156 ?_
   obtain ⟨⟨q228, q229⟩, H⟩ := if_some H
   obtain ⟨ad230, rfl⟩ := C_open (HS.getO 0 rfl) (by omega)
   refine di_ 3 underlying26 32 q228 q229 ?_
   obtain ⟨e231, el232, HS⟩ := HS.elO 0 rfl (by decide) o52 i178 q228 q229
   replace HS := HS.deriveO (p := (kF k52 (x0.f5.getD i178.toNat o52) e231)) (fun W_ hO_ hN_ => hO_.1.1)
   refine dt_ 4 (Below.refl _ _) (fun w_ hw_ => Run.loadS (cs := e231) rfl rfl underlying52 rfl (by rw [el232]; kernel_rfl) ((HS.below hw_).getO 1 rfl).2) ?_
   exact by (
   refine bl_ 6 HS (Below.refl _ _) 0 underlying3 (at33_0 (HS.aO 5 rfl)).int ?_
   obtain ⟨t233, ha234, H⟩ := bind_some H
   refine dcs_ HS HB 7 (w_none rfl) func35 (spec_LayerOk.runs k221 e231 (x0.f5.getD i178.toNat o52) x0.f0 t233 _ (HS.getO 0 rfl) ha234) (fun w235 HS HB => ?_)
   clear ha234
   refine dp_ 8 (fun _ => Run.not rfl rfl) ?_
   refine dd_ ?_
   clear HB HSW
   refine via_ hK226 ?_
   clear hK226
   rcases ite_ H with ⟨c236, H⟩ | ⟨c236, H⟩
   · refine wn_ (nB c236) (WC.skip (via_ hK225 (rg_ (mv_ ?_))))
     clear hK225
     refine b_ bin_add64 ?_
     refine as_ ?_
     refine WL.done ?_
     exact wr_ k221 iq ⟨(wrap64 (i178 + 1)), ⟨_, H, Ho177⟩, rfl, (St.pk HS [2, 3, 4, 5] [] rfl rfl)⟩
   exact by (
   refine wy_ (nB (bF c236)) (sr_ fun _ hK237 => ?_)
   refine ad_ hK237 ?_
   clear hK237
   refine WC.ret ?_
   obtain rfl := os H
   rw [hG175] at Ho177
   replace H : some _ = some _ := Ho177
   obtain rfl := os H
   exact fin1 Try.f10 rfl rfl hR_ ⟨rfl, HS.b⟩ )))))
 clear hK162
 refine WC.loop (fun k_ E_ W_ => ∃ i168, (∃ o_, sMO1.l3 x0 k_ i168 = some o_ ∧ G164 o_ = some r) ∧ J169 i168 E_ W_) k ⟨0, ⟨_, H, Ho167⟩, rfl, HS⟩ (sb rfl) ?_
 rintro k_ E_ w239 ⟨i168, ⟨oc166, H, Ho167⟩, rfl, HS⟩
 rcases k_ with _ | k240
 · exact no_ H
 replace H : sMO1.b3 x0 (sMO1.l3 x0 k240) k240 i168 = some oc166 := H
 unfold sMO1.b3 at H
 exact by (
 refine WC.seq fun _ hK241 => ?_
 refine sr_ fun _ hK242 => ?_
 refine mv_ ?_
 refine v_ (fa_ underlying33) ?_
 refine v_ (lb_ (HS.mu 0 rfl) underlying25 hc148) ?_
 refine ln_ underlying25 ?_
 refine b_ bin_lss ?_
 refine dn_ hK242 ?_
 clear hK242
 rcases eti_ H with ⟨c243, H⟩ | ⟨c243, H⟩
 · refine wn_ (dF c243) (WC.exit ?_)
   obtain rfl := os H
   exact wv_ iq X170 ⟨i168, Ho167, rfl, HS⟩
 refine wy_ (dT c243) (WC.skip (via_ hK241 (WC.seq fun _ hK244 => ?_)))
 clear hK241
 refine WC.block (WC.seq fun _ hK245 => ?_)
 exact by (
 refine WC.drawS HS [] rfl rfl (fun w246 HS => ?_)
 have HB := Below.refl w246.heap.size w246
 have HSW := HS
 refine df_ 0 underlying33 ?_
 refine dm_ 2 ?_
 refine df_ 6 underlying33 ?_
 refine bl_ 1 HS (Below.refl _ _) 0 underlying25 hc148 ?_
 obtain ⟨⟨q247, q248⟩, H⟩ := if_some H
 obtain ⟨ad249, rfl⟩ := C_open (HS.getO 1 rfl) (by omega)
 refine di_ 3 underlying25 1 q247 q248 ?_
 obtain ⟨A250, c251, le252, HS⟩ := HS.slO 1 rfl i168 q247 q248
 refine dt_ 4 (Below.refl _ _) (fun w_ hw_ => Run.load rfl rfl underlying27 rfl ((HS.below hw_).getO 1 rfl)) ?_
 refine dp_ 5 (fun _ => Run.len (ts := #[]) rfl underlying27 rfl) ?_
 refine bl_ 7 HS (Below.refl _ _) 0 underlying3 (at33_0 (HS.aO 5 rfl)).int ?_
 refine dp_ 8 (fun _ => Run.bin rfl rfl rfl bin_neq) ?_
 refine dm_ 9 ?_
 exact by (
 rcases eti_ H with ⟨c253, H⟩ | ⟨c253, H⟩
 · refine doT_ 10 (qT c253) ?_
   refine doT_ 11 (qT c253) ?_
   refine doT_ 12 (qT c253) ?_
   refine doT_ 13 (qT c253) ?_
   refine doT_ 14 (qT c253) ?_
   refine doT_ 15 (qT c253) ?_
   refine doT_ 16 (qT c253) ?_
   refine dp_ 17 (fun _ => Run.pickT rfl rfl (qT c253) rfl) ?_
   refine dd_ ?_
   clear HB HSW
   refine via_ hK245 (wy_ rfl ?_)
   clear hK245
   refine sr_ fun _ hK259 => ?_
   refine ad_ hK259 ?_
   clear hK259
   exact by (
   refine WC.ret ?_
   obtain rfl := os H
   rw [hG165] at Ho167
   replace H : some _ = some _ := Ho167
   obtain rfl := os H
   exact fin1 Try.f10 rfl rfl hR_ ⟨rfl, HS.b⟩ )
 refine dfg_ 10 (qF c253) underlying33 ?_
 refine dg_ 12 (qF c253) (fun _ => Run.move rfl rfl) ?_
 refine blg_ 11 (qF c253) HS (Below.refl _ _) 0 underlying25 hc148 ?_
 refine dg_ 13 (qF c253) (fun _ => Run.indexAddr rfl rfl rfl underlying25 (sz := 1) (by kernel_rfl) q247 q248) ?_
 refine dh_ 14 (qF c253) (Below.refl _ _) (fun w_ hw_ => Run.load rfl rfl underlying27 rfl ((HS.below hw_).getO 1 rfl)) ?_
 obtain ⟨t254, ha255, H⟩ := bind_some H
 refine dcs_ HS HB 15 (w_on rfl rfl rfl (qF c253)) func34 (sA.runs k240 A250 c251 (x0.f4.getD i168.toNat []) (-127) 127 t254 _ (HS.getO 0 rfl) le252 ha255) (fun w256 HS HB => ?_)
 clear ha255
 refine dg_ 16 (qF c253) (fun _ => Run.not rfl rfl) ?_
 refine dp_ 17 (fun _ => Run.pickF rfl rfl (qF c253) rfl) ?_
 exact by (
 refine dd_ ?_
 clear HB HSW
 refine via_ hK245 ?_
 clear hK245
 rcases ite_ H with ⟨c257, H⟩ | ⟨c257, H⟩
 · refine wn_ (nB c257) (WC.skip (via_ hK244 (rg_ (mv_ ?_))))
   clear hK244
   refine b_ bin_add64 ?_
   refine as_ ?_
   refine WL.done ?_
   exact wr_ k240 iq ⟨(wrap64 (i168 + 1)), ⟨_, H, Ho167⟩, rfl, (St.pk HS [2, 3, 4, 5] [] rfl rfl)⟩
 refine wy_ (nB (bF c257)) (sr_ fun _ hK258 => ?_)
 refine ad_ hK258 ?_
 clear hK258
 refine WC.ret ?_
 obtain rfl := os H
 exact by (
 rw [hG165] at Ho167
 replace H : some _ = some _ := Ho167
 obtain rfl := os H
 exact fin1 Try.f10 rfl rfl hR_ ⟨rfl, HS.b⟩ ))))))))))))
def sB1.b0 (l0 : List Int) (a1 : Int) (rec_ : (List Int) → Int → Option ((List Int) × Int)) (k24 : Nat) (xs11 : List Int) (i14 : Int) : Option ((List Int) × Int) := (if i14 < (l0.length : Int) then (if 0 ≤ i14 ∧ i14 < (l0.length : Int) then (if (xs11.length) < 4294967296 then (rec_ (xs11 ++ [IntKind.u8.wrap (wrap64 ((l0.getD i14.toNat 0) + a1))]) (wrap64 (i14 + 1))) else none) else none) else (some (xs11, i14)))
def sB1.l0 (l0 : List Int) (a1 : Int) : Nat → (List Int) → Int → Option ((List Int) × Int)
 | 0, _, _ => none
 | k + 1, xs11, i14 => sB1.b0 l0 a1 (sB1.l0 l0 a1 k) k xs11 i14
def sB1.g (k : Nat) (l0 : List Int) (a1 : Int) : Option (List Int) := ((sB1.l0 l0 a1 k ([] : List Int) 0).bind (fun oc22 => (some oc22.1)))
theorem sB1.runs (k : Nat) (A0 : Option Addr) (c0 : Nat) (l0 : List Int) (a1 : Int) (r : List Int) (w : World) (hr0 : kI.C w A0 l0.length l0) (hc0 : l0.length ≤ c0) (H : sB1.g k l0 a1 = some r) :
   Calls prog 27 #[.slice A0 l0.length c0, vi a1] w fun e w' => ∃ (A0_ : Option Addr) (c0_ : Nat), e = .returned (.slice A0_ r.length c0_) ∧ r.length ≤ c0_ ∧ Foot (cF kU A0_ r) w' (fun k_ => w.heap.size ≤ k_) ∧ Below w.heap.size w w' := by
 unfold sB1.g at H
 have HS : St (fun _ => True) w w [] [(cF kI A0 l0)] [] := St.start (foot_cons (foot_C (Kd.heap_int _) hr0) foot_nil)
 refine cw_ (n := 25) func27 fun R_ hR_ => ?_
 refine sr_ fun _ hK1 => ?_
 refine ad_ hK1 ?_
 refine sr_ fun _ hK2 => ?_
 refine WL.lit0 HS rfl rfl (by decide) rfl underlying22 (sz := 1) (by kernel_rfl) (fun v3 w4 HS => ?_)
 replace HS := HS.deriveN (p := (rF kU ([] : List Int) [])) (fun _ _ => Reps.none _ _)
 refine ad_ hK2 ?_
 refine WC.seq fun K5 hK5 => ?_
 refine sr_ fun _ hK6 => ?_
 refine ad_ hK6 ?_
 refine WC.block ?_
 obtain ⟨G7, hG8, oc9, H, Ho10⟩ := open_G H
 let J15 := fun (xs11 : List Int) v12 I13 (i14 : Int) (E_ : Env) (W_ : World) => E_ = [(0, .slice A0 l0.length c0), (1, vi a1), (5, v12), (6, vi i14)] ∧ St (fun _ => True) w W_ [rowM w.heap.size 5 1 v12 xs11.length I13] [(cF kI A0 l0)] [(rF kU xs11 I13)]
 have X16 : ∀ E_ W_, (∃ xs11 v12 I13 i14, G7 (xs11, i14) = some r ∧ J15 xs11 v12 I13 i14 E_ W_) → ∀ a, Fits a 25 E_ → K5 a W_ := by
   rintro E_ w17 ⟨xs11, v12, I13, i14, H, rfl, HS⟩
   rw [hG8] at H
   (try dsimp only at H)
   refine hK5 _ _ ?_
   refine sr_ fun _ hK18 => ?_
   refine mv_ ?_
   refine ad_ hK18 ?_
   refine WC.ret ?_
   obtain ⟨A19, c20, rfl⟩ := row_slice (HS.mu 0 rfl)
   have le21 := row_le (HS.mu 0 rfl)
   replace HS := HS.freezeN 0 (p := (cF kU A19 (xs11))) rfl (fun W_ hm_ h_ => row_C (by rfl) hm_ h_.1)
   dsimp only [List.eraseIdx] at HS
   obtain rfl := os H
   exact fin1 Try.f27 rfl rfl hR_ ⟨_, _, rfl, le21, (foot_fresh (HS.footN 0 rfl)), HS.b⟩
 clear hK5
 refine WC.loop (fun k_ E_ W_ => ∃ xs11 v12 I13 i14, (∃ o_, sB1.l0 l0 a1 k_ xs11 i14 = some o_ ∧ G7 o_ = some r) ∧ J15 xs11 v12 I13 i14 E_ W_) k ⟨([] : List Int), v3, ([]), 0, ⟨_, H, Ho10⟩, rfl, HS⟩ (sb rfl) ?_
 rintro k_ E_ w23 ⟨xs11, v12, I13, i14, ⟨oc9, H, Ho10⟩, rfl, HS⟩
 rcases k_ with _ | k24
 · exact no_ H
 replace H : sB1.b0 l0 a1 (sB1.l0 l0 a1 k24) k24 xs11 i14 = some oc9 := H
 unfold sB1.b0 at H
 refine WC.seq fun _ hK25 => ?_
 refine sr_ fun _ hK26 => ?_
 refine mv_ ?_
 refine mv_ ?_
 refine ln_ underlying27 ?_
 refine b_ bin_lss ?_
 refine dn_ hK26 ?_
 rcases eti_ H with ⟨c27, H⟩ | ⟨c27, H⟩
 · refine wn_ (dF c27) (WC.exit ?_)
   obtain rfl := os H
   exact wv_ iq X16 ⟨xs11, v12, I13, i14, Ho10, rfl, HS⟩
 refine wy_ (dT c27) (WC.skip (via_ hK25 (WC.seq fun _ hK28 => ?_)))
 refine WC.block (rg_ (mv_ ?_))
 refine mv_ ?_
 refine mv_ ?_
 obtain ⟨⟨q29, q30⟩, H⟩ := if_some H
 obtain ⟨ad31, rfl⟩ := C_open (HS.getO 0 rfl) (by omega)
 refine v_ (ia_ underlying27 1 q29 q30) ?_
 refine v_ (Run.load rfl rfl underlying3 rfl (int_cell (HS.getO 0 rfl) i14 q29 q30)) ?_
 refine mv_ ?_
 refine b_ bin_add64 ?_
 refine v_ (Run.convI rfl underlying3 underlying5 rfl) ?_
 refine WL.val rfl rfl (by decide) (Run.lit1 (z := (.int .u8 0)) (vs := [.int .u8 (IntKind.u8.wrap (wrap64 ((l0.getD i14.toNat 0) + a1)))]) rfl rfl rfl underlying22 (by kernel_rfl) (ble_ rfl) (ble_ rfl)) ?_
 have HS1 := HS.below (below_alloc (Below.refl _ _) (.cells #[.int .u8 (IntKind.u8.wrap (wrap64 ((l0.getD i14.toNat 0) + a1)))] 5))
 obtain ⟨q32, H⟩ := if_some H
 refine WL.append HS1 0 rfl rfl rfl (by decide) rfl (.int .u8 0) 1 underlying22 (by kernel_rfl) rfl (by decide) (by decide) rfl rfl [.int .u8 (IntKind.u8.wrap (wrap64 ((l0.getD i14.toNat 0) + a1)))] rfl (lit_news _ _ _) (oneL rfl) (by omega) ((xs11 ++ [IntKind.u8.wrap (wrap64 ((l0.getD i14.toNat 0) + a1))]).length) (by simp) (fun v33 w34 I35 hI36 HS => ?_)
 dsimp only [List.set] at HS
 replace HS := HS.deriveN (p := (rF kU (xs11 ++ [IntKind.u8.wrap (wrap64 ((l0.getD i14.toNat 0) + a1))]) I35)) (fun W_ hN_ => reps_snoc hI36 hN_.1 (K_int _))
 clear HS1
 refine ad_ hK28 ?_
 refine rg_ (mv_ ?_)
 refine b_ bin_add64 ?_
 refine as_ ?_
 refine WL.done ?_
 exact wr_ k24 iq ⟨(xs11 ++ [IntKind.u8.wrap (wrap64 ((l0.getD i14.toNat 0) + a1))]), v33, I35, (wrap64 (i14 + 1)), ⟨_, H, Ho10⟩, rfl, (St.pk HS [0] [0] rfl rfl)⟩
def spec_l11Two.g (k : Nat) (a0 : Int) : Option (List Int) := (some ([IntKind.u8.wrap (wrap64 (Int.tdiv a0 256)), IntKind.u8.wrap (Int.tmod a0 256)]))
theorem spec_l11Two.runs (k : Nat) (a0 : Int) (r : List Int) (w : World) (H : spec_l11Two.g k a0 = some r) :
   Calls prog 26 #[vi a0] w fun e w' => ∃ (A0_ : Option Addr) (c0_ : Nat), e = .returned (.slice A0_ r.length c0_) ∧ r.length ≤ c0_ ∧ Foot (cF kU A0_ r) w' (fun k_ => w.heap.size ≤ k_) ∧ Below w.heap.size w w' := by
 unfold spec_l11Two.g at H
 have HS : St (fun _ => True) w w [] [] [] := St.start foot_nil
 refine cw_ (n := 10) func26 fun R_ hR_ => ?_
 refine sr_ fun _ hK1 => ?_
 refine ad_ hK1 ?_
 refine sr_ fun _ hK2 => ?_
 refine mv_ ?_
 refine v_ (Run.bin rfl rfl rfl (bin_quo64 (show (256 : Int) ≠ 0 by decide))) ?_
 refine v_ (Run.convI rfl underlying3 underlying5 rfl) ?_
 refine mv_ ?_
 refine v_ (Run.bin rfl rfl rfl (bin_rem (show (256 : Int) ≠ 0 by decide))) ?_
 refine v_ (Run.convI rfl underlying3 underlying5 rfl) ?_
 refine WL.litN HS (sz := 1) (z := (.int .u8 0)) rfl rfl (by decide) rfl [[.int .u8 (IntKind.u8.wrap (wrap64 (Int.tdiv a0 256)))], [.int .u8 (IntKind.u8.wrap (Int.tmod a0 256))]] ⟨⟨rfl, _, rfl, rfl, rfl⟩, ⟨⟨rfl, _, rfl, rfl, rfl⟩, trivial⟩⟩ rfl underlying22 (by kernel_rfl) (by decide) (by decide) (fun v3 w4 HS => ?_)
 replace HS := HS.deriveN (p := (rF kU [IntKind.u8.wrap (wrap64 (Int.tdiv a0 256)), IntKind.u8.wrap (Int.tmod a0 256)] (List.flatten [[.int .u8 (IntKind.u8.wrap (wrap64 (Int.tdiv a0 256)))], [.int .u8 (IntKind.u8.wrap (Int.tmod a0 256))]]))) (fun W_ hN_ => reps_lit ⟨(K_int _), ⟨(K_int _), trivial⟩⟩)
 refine ad_ hK2 ?_
 refine WC.ret ?_
 obtain ⟨A5, c6, rfl⟩ := row_slice (HS.mu 0 rfl)
 have le7 := row_le (HS.mu 0 rfl)
 replace HS := HS.freezeN 0 (p := (fun W => kU.C W A5 2 ([IntKind.u8.wrap (wrap64 (Int.tdiv a0 256)), IntKind.u8.wrap (Int.tmod a0 256)]))) rfl (fun W_ hm_ h_ => row_C (by simp) hm_ h_.1)
 dsimp only [List.eraseIdx] at HS
 obtain rfl := os H
 exact fin1 Try.f26 rfl rfl hR_ ⟨_, _, rfl, le7, (foot_fresh (HS.footN 0 rfl)), HS.b⟩
def sM1.b0 (x0 : S29) (rec_ : (List Int) → (List Int) → Int → Option ((List Int) × (List Int) × Int)) (k59 : Nat) (xs16 : List Int) (xs19 : List Int) (i22 : Int) : Option ((List Int) × (List Int) × Int) := (if i22 < (x0.f1.length : Int) then (if 0 ≤ i22 ∧ i22 < (x0.f1.length : Int) then (if (xs16.length) + ((x0.f1.getD i22.toNat []).length) < 4294967296 then (if 0 ≤ i22 ∧ i22 < (x0.f2.length : Int) then ((sB1.g k59 (x0.f2.getD i22.toNat []) 0).bind fun t87 => (if (xs19.length) + (t87.length) < 4294967296 then (rec_ (xs16 ++ (x0.f1.getD i22.toNat [])) (xs19 ++ t87) (wrap64 (i22 + 1))) else none)) else none) else none) else none) else (some (xs16, xs19, i22)))
def sM1.l0 (x0 : S29) : Nat → (List Int) → (List Int) → Int → Option ((List Int) × (List Int) × Int)
 | 0, _, _, _ => none
 | k + 1, xs16, xs19, i22 => sM1.b0 x0 (sM1.l0 x0 k) k xs16 xs19 i22
def sM1.g (k : Nat) (x0 : S29) : Option (List Int) := ((sM1.l0 x0 k ([] : List Int) ([] : List Int) 0).bind (fun oc57 => ((sPN.g k oc57.1).bind fun t29 => (if (t29.1).size < 4294967296 then (if ((bytesOf t29.1).length) + (oc57.2.1.length) < 4294967296 then (if (((bytesOf t29.1) ++ oc57.2.1).length) < 4294967296 then (some (((bytesOf t29.1) ++ oc57.2.1) ++ [IntKind.u8.wrap (wrap64 (Int.tdiv x0.f3 65536)), IntKind.u8.wrap (Int.tmod (wrap64 (Int.tdiv x0.f3 256)) 256), IntKind.u8.wrap (Int.tmod x0.f3 256), IntKind.u8.wrap (x0.f4)])) else none) else none) else none))))
theorem sM1.runs (k : Nat) (x0 : S29) (A0_1 : Option Addr) (c0_1 : Nat) (A0_2 : Option Addr) (c0_2 : Nat) (r : List Int) (w : World) (hr0_1 : kS3.C w A0_1 x0.f1.length x0.f1) (hc0_1 : x0.f1.length ≤ c0_1) (hr0_2 : kS3.C w A0_2 x0.f2.length x0.f2) (hc0_2 : x0.f2.length ≤ c0_2) (H : sM1.g k x0 = some r) :
   Calls prog 28 #[.agg #[vi x0.f0, .slice A0_1 x0.f1.length c0_1, .slice A0_2 x0.f2.length c0_2, vi x0.f3, vi x0.f4]] w fun e w' => ∃ (A0_ : Option Addr) (c0_ : Nat), e = .returned (.slice A0_ r.length c0_) ∧ r.length ≤ c0_ ∧ Foot (cF kU A0_ r) w' (fun k_ => w.heap.size ≤ k_) ∧ Below w.heap.size w w' := by
 unfold sM1.g at H
 have HS : St (fun _ => True) w w [] [(cF kS3 A0_1 x0.f1), (cF kS3 A0_2 x0.f2)] [] := St.start (foot_cons (foot_C (Kd.heap_slice _ (Kd.heap_int _)) hr0_1) (foot_cons (foot_C (Kd.heap_slice _ (Kd.heap_int _)) hr0_2) foot_nil))
 refine cw_ (n := 61) func28 fun R_ hR_ => ?_
 refine sr_ fun _ hK1 => ?_
 refine bo_ HS (fun b2 w3 hb2 HS => ?_)
 refine ad_ hK1 ?_
 refine sr_ fun _ hK4 => ?_
 refine WL.lit0 HS rfl rfl (by decide) rfl underlying27 (sz := 1) (by kernel_rfl) (fun v5 w6 HS => ?_)
 replace HS := HS.deriveN (p := (rF kI ([] : List Int) [])) (fun _ _ => Reps.none _ _)
 refine ad_ hK4 ?_
 refine sr_ fun _ hK7 => ?_
 refine WL.lit0 HS rfl rfl (by decide) rfl underlying22 (sz := 1) (by kernel_rfl) (fun v8 w9 HS => ?_)
 replace HS := HS.deriveN (p := (rF kU ([] : List Int) [])) (fun _ _ => Reps.none _ _)
 refine ad_ hK7 ?_
 refine WC.seq fun K10 hK10 => ?_
 refine sr_ fun _ hK11 => ?_
 refine ad_ hK11 ?_
 refine WC.block ?_
 obtain ⟨G12, hG13, oc14, H, Ho15⟩ := open_G H
 let J23 := fun (xs16 : List Int) v17 I18 (xs19 : List Int) v20 I21 (i22 : Int) (E_ : Env) (W_ : World) => E_ = [(1, .pointer (some ⟨b2, 0, none⟩)), (3, v17), (4, v20), (5, vi i22)] ∧ St (fun _ => True) w W_ [rowM w.heap.size 5 1 v20 xs19.length I21, rowM w.heap.size 3 1 v17 xs16.length I18, boxM b2 #[vi x0.f0, .slice A0_1 x0.f1.length c0_1, .slice A0_2 x0.f2.length c0_2, vi x0.f3, vi x0.f4] 29] [(cF kS3 A0_1 x0.f1), (cF kS3 A0_2 x0.f2)] [(rF kU xs19 I21), (rF kI xs16 I18)]
 have X24 : ∀ E_ W_, (∃ xs16 v17 I18 xs19 v20 I21 i22, G12 (xs16, xs19, i22) = some r ∧ J23 xs16 v17 I18 xs19 v20 I21 i22 E_ W_) → ∀ a, Fits a 61 E_ → K10 a W_ := by
   rintro E_ w25 ⟨xs16, v17, I18, xs19, v20, I21, i22, H, rfl, HS⟩
   rw [hG13] at H
   (try dsimp only at H)
   refine hK10 _ _ ?_
   refine sr_ fun _ hK26 => ?_
   refine mv_ ?_
   obtain ⟨A27, c28, rfl⟩ := row_slice (HS.mu 1 rfl)
   obtain ⟨t29, ha30, H⟩ := bind_some H
   refine cs_ HS func67 (sPN.runs k A27 c28 xs16 t29.1 t29.2 _ (row_C rfl (HS.mu 1 rfl) (HS.getN 1 rfl)) (row_le (HS.mu 1 rfl)) ha30) (fun w31 HS => ?_)
   clear ha30
   refine mv_ ?_
   refine v_ (Run.extract rfl rfl rfl) ?_
   refine v_ (Run.extract rfl rfl rfl) ?_
   refine as_ ?_
   refine ad_ hK26 ?_
   refine sr_ fun _ hK32 => ?_
   refine mv_ ?_
   obtain ⟨q33, H⟩ := if_some H
   refine WL.bytes HS rfl rfl (by decide) rfl underlying9 underlying22 underlying5 rfl q33 (fun v34 w35 HS => ?_)
   replace HS := HS.deriveN (p := (rF kU (bytesOf t29.1) (bcells t29.1))) (fun W_ hN_ => bcells_reps _)
   refine mv_ ?_
   obtain ⟨q36, H⟩ := if_some H
   obtain ⟨A42, c43, rfl⟩ := row_slice (HS.mu 1 rfl)
   obtain ⟨hl38, h39, hc41⟩ := row_all (dd := kU) (HS.mu 1 rfl) (HS.getN 1 rfl) (by decide)
   refine WL.appendX HS 0 rfl rfl rfl (by decide) rfl (.int .u8 0) 1 underlying22 (by kernel_rfl) rfl (by decide) (by decide) rfl rfl I21 hl38 hc41 h39 (by omega) (((bytesOf t29.1) ++ xs19).length) (by simp <;> omega) (fun v44 w45 I46 hI47 HS => ?_)
   dsimp only [List.set] at HS
   replace HS := HS.deriveN (p := (rF kU ((bytesOf t29.1) ++ xs19) I46)) (fun W_ hN_ => reps_more hI47 hN_.1 hN_.2.1)
   refine ad_ hK32 ?_
   refine sr_ fun _ hK48 => ?_
   refine mv_ ?_
   refine v_ (fa_ underlying29) ?_
   refine v_ (lb_ (HS.mu 3 rfl) underlying3 rfl) ?_
   refine v_ (Run.bin rfl rfl rfl (bin_quo64 (show (65536 : Int) ≠ 0 by decide))) ?_
   refine v_ (Run.convI rfl underlying3 underlying5 rfl) ?_
   refine v_ (fa_ underlying29) ?_
   refine v_ (lb_ (HS.mu 3 rfl) underlying3 rfl) ?_
   refine v_ (Run.bin rfl rfl rfl (bin_quo64 (show (256 : Int) ≠ 0 by decide))) ?_
   refine v_ (Run.bin rfl rfl rfl (bin_rem (show (256 : Int) ≠ 0 by decide))) ?_
   refine v_ (Run.convI rfl underlying3 underlying5 rfl) ?_
   refine v_ (fa_ underlying29) ?_
   refine v_ (lb_ (HS.mu 3 rfl) underlying3 rfl) ?_
   refine v_ (Run.bin rfl rfl rfl (bin_rem (show (256 : Int) ≠ 0 by decide))) ?_
   refine v_ (Run.convI rfl underlying3 underlying5 rfl) ?_
   refine v_ (fa_ underlying29) ?_
   refine v_ (lb_ (HS.mu 3 rfl) underlying3 rfl) ?_
   refine v_ (Run.convI rfl underlying3 underlying5 rfl) ?_
   refine WL.val rfl rfl (by decide) (Run.litN (sz := 1) (z := (.int .u8 0)) (L := [[.int .u8 (IntKind.u8.wrap (wrap64 (Int.tdiv x0.f3 65536)))], [.int .u8 (IntKind.u8.wrap (Int.tmod (wrap64 (Int.tdiv x0.f3 256)) 256))], [.int .u8 (IntKind.u8.wrap (Int.tmod x0.f3 256))], [.int .u8 (IntKind.u8.wrap (x0.f4))]]) rfl ⟨⟨rfl, _, rfl, rfl, rfl⟩, ⟨⟨rfl, _, rfl, rfl, rfl⟩, ⟨⟨rfl, _, rfl, rfl, rfl⟩, ⟨⟨rfl, _, rfl, rfl, rfl⟩, trivial⟩⟩⟩⟩ rfl underlying22 (by kernel_rfl) (by decide) (by decide)) ?_
   have HS1 := HS.below (below_alloc (Below.refl _ _) (.cells (List.toArray [.int .u8 (IntKind.u8.wrap (wrap64 (Int.tdiv x0.f3 65536))), .int .u8 (IntKind.u8.wrap (Int.tmod (wrap64 (Int.tdiv x0.f3 256)) 256)), .int .u8 (IntKind.u8.wrap (Int.tmod x0.f3 256)), .int .u8 (IntKind.u8.wrap (x0.f4))]) 5))
   obtain ⟨q49, H⟩ := if_some H
   refine WL.appendX HS1 0 rfl rfl rfl (by decide) rfl (.int .u8 0) 1 underlying22 (by kernel_rfl) rfl (by decide) (by decide) rfl rfl [.int .u8 (IntKind.u8.wrap (wrap64 (Int.tdiv x0.f3 65536))), .int .u8 (IntKind.u8.wrap (Int.tmod (wrap64 (Int.tdiv x0.f3 256)) 256)), .int .u8 (IntKind.u8.wrap (Int.tmod x0.f3 256)), .int .u8 (IntKind.u8.wrap (x0.f4))] rfl (fun _ => ⟨_, rfl, lit_news _ _ _⟩) (oneL rfl) (by omega) ((((bytesOf t29.1) ++ xs19) ++ [IntKind.u8.wrap (wrap64 (Int.tdiv x0.f3 65536)), IntKind.u8.wrap (Int.tmod (wrap64 (Int.tdiv x0.f3 256)) 256), IntKind.u8.wrap (Int.tmod x0.f3 256), IntKind.u8.wrap (x0.f4)]).length) (by simp <;> omega) (fun v50 w51 I52 hI53 HS => ?_)
   dsimp only [List.set] at HS
   replace HS := HS.deriveN (p := (rF kU (((bytesOf t29.1) ++ xs19) ++ [IntKind.u8.wrap (wrap64 (Int.tdiv x0.f3 65536)), IntKind.u8.wrap (Int.tmod (wrap64 (Int.tdiv x0.f3 256)) 256), IntKind.u8.wrap (Int.tmod x0.f3 256), IntKind.u8.wrap (x0.f4)]) I52)) (fun W_ hN_ => reps_more (J := List.flatten [[.int .u8 (IntKind.u8.wrap (wrap64 (Int.tdiv x0.f3 65536)))], [.int .u8 (IntKind.u8.wrap (Int.tmod (wrap64 (Int.tdiv x0.f3 256)) 256))], [.int .u8 (IntKind.u8.wrap (Int.tmod x0.f3 256))], [.int .u8 (IntKind.u8.wrap (x0.f4))]]) hI53 hN_.1 (reps_lit ⟨(K_int _), ⟨(K_int _), ⟨(K_int _), ⟨(K_int _), trivial⟩⟩⟩⟩))
   clear HS1
   refine ad_ hK48 ?_
   refine WC.ret ?_
   obtain ⟨A54, c55, rfl⟩ := rowX_slice (HS.mu 0 rfl)
   have le56 := rowX_le (HS.mu 0 rfl)
   replace HS := HS.freezeN 0 (p := (cF kU A54 ((((bytesOf t29.1) ++ xs19) ++ [IntKind.u8.wrap (wrap64 (Int.tdiv x0.f3 65536)), IntKind.u8.wrap (Int.tmod (wrap64 (Int.tdiv x0.f3 256)) 256), IntKind.u8.wrap (Int.tmod x0.f3 256), IntKind.u8.wrap (x0.f4)])))) rfl (fun W_ hm_ h_ => rowX_C (by rfl) hm_ h_.1)
   dsimp only [List.eraseIdx] at HS
   obtain rfl := os H
   exact fin1 Try.f28 rfl rfl hR_ ⟨_, _, rfl, le56, (foot_fresh (HS.footN 0 rfl)), HS.b⟩
 clear hK10
 refine WC.loop (fun k_ E_ W_ => ∃ xs16 v17 I18 xs19 v20 I21 i22, (∃ o_, sM1.l0 x0 k_ xs16 xs19 i22 = some o_ ∧ G12 o_ = some r) ∧ J23 xs16 v17 I18 xs19 v20 I21 i22 E_ W_) k ⟨([] : List Int), v5, ([]), ([] : List Int), v8, ([]), 0, ⟨_, H, Ho15⟩, rfl, HS⟩ (sb rfl) ?_
 rintro k_ E_ w58 ⟨xs16, v17, I18, xs19, v20, I21, i22, ⟨oc14, H, Ho15⟩, rfl, HS⟩
 rcases k_ with _ | k59
 · exact no_ H
 replace H : sM1.b0 x0 (sM1.l0 x0 k59) k59 xs16 xs19 i22 = some oc14 := H
 unfold sM1.b0 at H
 refine WC.seq fun _ hK60 => ?_
 refine sr_ fun _ hK61 => ?_
 refine mv_ ?_
 refine v_ (fa_ underlying29) ?_
 refine v_ (lb_ (HS.mu 2 rfl) underlying25 rfl) ?_
 refine ln_ underlying25 ?_
 refine b_ bin_lss ?_
 refine dn_ hK61 ?_
 rcases eti_ H with ⟨c62, H⟩ | ⟨c62, H⟩
 · refine wn_ (dF c62) (WC.exit ?_)
   obtain rfl := os H
   exact wv_ iq X24 ⟨xs16, v17, I18, xs19, v20, I21, i22, Ho15, rfl, HS⟩
 refine wy_ (dT c62) (WC.skip (via_ hK60 (WC.seq fun _ hK63 => ?_)))
 refine WC.block (sr_ fun _ hK64 => ?_)
 refine mv_ ?_
 refine v_ (fa_ underlying29) ?_
 refine v_ (lb_ (HS.mu 2 rfl) underlying25 rfl) ?_
 refine mv_ ?_
 obtain ⟨⟨q65, q66⟩, H⟩ := if_some H
 obtain ⟨ad67, rfl⟩ := C_open (HS.getO 0 rfl) (by omega)
 refine v_ (ia_ underlying25 1 q65 q66) ?_
 obtain ⟨A68, c69, le70, HS⟩ := HS.slO 0 rfl i22 q65 q66
 refine v_ (Run.load rfl rfl underlying27 rfl (HS.getO 1 rfl)) ?_
 obtain ⟨q71, H⟩ := if_some H
 obtain ⟨L72, hl73, h74, hF75, hc76⟩ := foot_all (HS.footO 0 rfl) (by decide) rfl
 replace HS := HS.addN (p := (rF kI (x0.f1.getD i22.toNat []) L72)) (fun W_ _ => hF75.now)
 refine WL.appendL HS 1 rfl rfl rfl (by decide) rfl (vi 0) 8 underlying27 (by kernel_rfl) rfl (by decide) (by decide) rfl rfl L72 hl73 hc76 h74 (by omega) ((xs16 ++ (x0.f1.getD i22.toNat [])).length) (by simp <;> omega) (fun v77 w78 I79 hI80 HS => ?_)
 dsimp only [List.set] at HS
 replace HS := HS.deriveN (p := (rF kI (xs16 ++ (x0.f1.getD i22.toNat [])) I79)) (fun W_ hN_ => reps_more hI80 hN_.2.2.1 hN_.1)
 refine ad_ hK64 ?_
 refine rg_ (mv_ ?_)
 refine v_ (fa_ underlying29) ?_
 refine v_ (lb_ (HS.mu 2 rfl) underlying25 rfl) ?_
 refine mv_ ?_
 obtain ⟨⟨q81, q82⟩, H⟩ := if_some H
 obtain ⟨ad83, rfl⟩ := C_open (HS.getO 3 rfl) (by omega)
 refine v_ (ia_ underlying25 1 q81 q82) ?_
 obtain ⟨A84, c85, le86, HS⟩ := HS.slO 3 rfl i22 q81 q82
 refine v_ (Run.load rfl rfl underlying27 rfl (HS.getO 1 rfl)) ?_
 obtain ⟨t87, ha88, H⟩ := bind_some H
 refine c_ func27 (sB1.runs k59 A84 c85 (x0.f2.getD i22.toNat []) 0 t87 _ (HS.getO 0 rfl) le86 ha88) ?_
 clear ha88
 rintro _ w89 ⟨A90, c91, rfl, le92, hf93, hb⟩
 replace HS := HS.newNs hb (foot_cons hf93 foot_nil)
 refine ⟨_, rfl, ?_⟩
 clear hb
 obtain ⟨q94, H⟩ := if_some H
 obtain ⟨L95, hl96, h97, hF98, hc99⟩ := foot_all (HS.footN 0 rfl) (by decide) rfl
 replace HS := HS.addN (p := (rF kU t87 L95)) (fun W_ _ => hF98.now)
 refine WL.appendL HS 0 rfl rfl rfl (by decide) rfl (.int .u8 0) 1 underlying22 (by kernel_rfl) rfl (by decide) (by decide) rfl rfl L95 hl96 hc99 h97 (by omega) ((xs19 ++ t87).length) (by simp <;> omega) (fun v100 w101 I102 hI103 HS => ?_)
 dsimp only [List.set] at HS
 replace HS := HS.deriveN (p := (rF kU (xs19 ++ t87) I102)) (fun W_ hN_ => reps_more hI103 hN_.2.2.2.2.1 hN_.1)
 refine ad_ hK63 ?_
 refine rg_ (mv_ ?_)
 refine b_ bin_add64 ?_
 refine as_ ?_
 refine WL.done ?_
 exact wr_ k59 iq ⟨(xs16 ++ (x0.f1.getD i22.toNat [])), v77, I79, (xs19 ++ t87), v100, I102, (wrap64 (i22 + 1)), ⟨_, H, Ho15⟩, rfl, (St.pk HS [4, 5] [0, 3] rfl rfl)⟩
def sT.b1 (l0 : List (List Int)) (i14 : Int) (rec_ : (List Int) → Int → Option ((List Int) × Int)) (k43 : Nat) (xs34 : List Int) (i37 : Int) : Option ((List Int) × Int) := (if 0 ≤ i14 ∧ i14 < (l0.length : Int) then (if i37 < ((l0.getD i14.toNat []).length : Int) then (if 0 ≤ i37 ∧ i37 < ((l0.getD i14.toNat []).length : Int) then ((spec_l11Two.g k43 (wrap64 (((l0.getD i14.toNat []).getD i37.toNat 0) + 128))).bind fun t57 => (if (xs34.length) + (t57.length) < 4294967296 then (rec_ (xs34 ++ t57) (wrap64 (i37 + 1))) else none)) else none) else (some (xs34, i37))) else none)
def sT.l1 (l0 : List (List Int)) (i14 : Int) : Nat → (List Int) → Int → Option ((List Int) × Int)
 | 0, _, _ => none
 | k + 1, xs34, i37 => sT.b1 l0 i14 (sT.l1 l0 i14 k) k xs34 i37
def sT.b0 (l0 : List (List Int)) (rec_ : (List Int) → Int → Option ((List Int) × Int)) (k24 : Nat) (xs11 : List Int) (i14 : Int) : Option ((List Int) × Int) := (if i14 < (l0.length : Int) then ((sT.l1 l0 i14 k24 xs11 0).bind (fun oc41 => (rec_ oc41.1 (wrap64 (i14 + 1))))) else (some (xs11, i14)))
def sT.l0 (l0 : List (List Int)) : Nat → (List Int) → Int → Option ((List Int) × Int)
 | 0, _, _ => none
 | k + 1, xs11, i14 => sT.b0 l0 (sT.l0 l0 k) k xs11 i14
def sT.g (k : Nat) (l0 : List (List Int)) : Option (List Int) := ((sT.l0 l0 k ([] : List Int) 0).bind (fun oc22 => (some oc22.1)))
theorem sT.runs (k : Nat) (A0 : Option Addr) (c0 : Nat) (l0 : List (List Int)) (r : List Int) (w : World) (hr0 : kS3.C w A0 l0.length l0) (hc0 : l0.length ≤ c0) (H : sT.g k l0 = some r) :
   Calls prog 29 #[.slice A0 l0.length c0] w fun e w' => ∃ (A0_ : Option Addr) (c0_ : Nat), e = .returned (.slice A0_ r.length c0_) ∧ r.length ≤ c0_ ∧ Foot (cF kU A0_ r) w' (fun k_ => w.heap.size ≤ k_) ∧ Below w.heap.size w w' := by
 unfold sT.g at H
 have HS : St (fun _ => True) w w [] [(cF kS3 A0 l0)] [] := St.start (foot_cons (foot_C (Kd.heap_slice _ (Kd.heap_int _)) hr0) foot_nil)
 refine cw_ (n := 34) func29 fun R_ hR_ => ?_
 refine sr_ fun _ hK1 => ?_
 refine ad_ hK1 ?_
 refine sr_ fun _ hK2 => ?_
 refine WL.lit0 HS rfl rfl (by decide) rfl underlying22 (sz := 1) (by kernel_rfl) (fun v3 w4 HS => ?_)
 replace HS := HS.deriveN (p := (rF kU ([] : List Int) [])) (fun _ _ => Reps.none _ _)
 refine ad_ hK2 ?_
 refine WC.seq fun K5 hK5 => ?_
 refine sr_ fun _ hK6 => ?_
 refine ad_ hK6 ?_
 refine WC.block ?_
 obtain ⟨G7, hG8, oc9, H, Ho10⟩ := open_G H
 let J15 := fun (xs11 : List Int) v12 I13 (i14 : Int) (E_ : Env) (W_ : World) => E_ = [(0, .slice A0 l0.length c0), (3, v12), (4, vi i14)] ∧ St (fun _ => True) w W_ [rowM w.heap.size 5 1 v12 xs11.length I13] [(cF kS3 A0 l0)] [(rF kU xs11 I13)]
 have X16 : ∀ E_ W_, (∃ xs11 v12 I13 i14, G7 (xs11, i14) = some r ∧ J15 xs11 v12 I13 i14 E_ W_) → ∀ a, Fits a 34 E_ → K5 a W_ := by
   rintro E_ w17 ⟨xs11, v12, I13, i14, H, rfl, HS⟩
   rw [hG8] at H
   (try dsimp only at H)
   refine hK5 _ _ ?_
   refine sr_ fun _ hK18 => ?_
   refine mv_ ?_
   refine ad_ hK18 ?_
   refine WC.ret ?_
   obtain ⟨A19, c20, rfl⟩ := row_slice (HS.mu 0 rfl)
   have le21 := row_le (HS.mu 0 rfl)
   replace HS := HS.freezeN 0 (p := (cF kU A19 (xs11))) rfl (fun W_ hm_ h_ => row_C (by rfl) hm_ h_.1)
   dsimp only [List.eraseIdx] at HS
   obtain rfl := os H
   exact fin1 Try.f29 rfl rfl hR_ ⟨_, _, rfl, le21, (foot_fresh (HS.footN 0 rfl)), HS.b⟩
 clear hK5
 refine WC.loop (fun k_ E_ W_ => ∃ xs11 v12 I13 i14, (∃ o_, sT.l0 l0 k_ xs11 i14 = some o_ ∧ G7 o_ = some r) ∧ J15 xs11 v12 I13 i14 E_ W_) k ⟨([] : List Int), v3, ([]), 0, ⟨_, H, Ho10⟩, rfl, HS⟩ (sb rfl) ?_
 rintro k_ E_ w23 ⟨xs11, v12, I13, i14, ⟨oc9, H, Ho10⟩, rfl, HS⟩
 rcases k_ with _ | k24
 · exact no_ H
 replace H : sT.b0 l0 (sT.l0 l0 k24) k24 xs11 i14 = some oc9 := H
 unfold sT.b0 at H
 refine WC.seq fun _ hK25 => ?_
 refine sr_ fun _ hK26 => ?_
 refine mv_ ?_
 refine mv_ ?_
 refine ln_ underlying25 ?_
 refine b_ bin_lss ?_
 refine dn_ hK26 ?_
 rcases eti_ H with ⟨c27, H⟩ | ⟨c27, H⟩
 · refine wn_ (dF c27) (WC.exit ?_)
   obtain rfl := os H
   exact wv_ iq X16 ⟨xs11, v12, I13, i14, Ho10, rfl, HS⟩
 refine wy_ (dT c27) (WC.skip (via_ hK25 (WC.seq fun K28 hK28 => ?_)))
 refine WC.block (sr_ fun _ hK29 => ?_)
 refine ad_ hK29 ?_
 refine WC.block ?_
 obtain ⟨G30, hG31, oc32, H, Ho33⟩ := open_G H
 let J38 := fun (xs34 : List Int) v35 I36 (i37 : Int) (E_ : Env) (W_ : World) => E_ = [(0, .slice A0 l0.length c0), (3, v35), (4, vi i14), (5, vi i37)] ∧ St (fun _ => True) w W_ [rowM w.heap.size 5 1 v35 xs34.length I36] [(cF kS3 A0 l0)] [(rF kU xs34 I36)]
 have X39 : ∀ E_ W_, (∃ xs34 v35 I36 i37, G30 (xs34, i37) = some oc9 ∧ J38 xs34 v35 I36 i37 E_ W_) → ∀ a, Fits a 34 E_ → K28 a W_ := by
   rintro E_ w40 ⟨xs34, v35, I36, i37, H, rfl, HS⟩
   rw [hG31] at H
   (try dsimp only at H)
   refine hK28 _ _ ?_
   refine rg_ (mv_ ?_)
   refine b_ bin_add64 ?_
   refine as_ ?_
   refine WL.done ?_
   exact wr_ k24 iq ⟨xs34, v35, I36, (wrap64 (i14 + 1)), ⟨_, H, Ho10⟩, rfl, HS⟩
 clear hK28
 refine WC.loop (fun k_ E_ W_ => ∃ xs34 v35 I36 i37, (∃ o_, sT.l1 l0 i14 k_ xs34 i37 = some o_ ∧ G30 o_ = some oc9) ∧ J38 xs34 v35 I36 i37 E_ W_) k24 ⟨xs11, v12, I13, 0, ⟨_, H, Ho33⟩, rfl, HS⟩ (sb rfl) ?_
 rintro k_ E_ w42 ⟨xs34, v35, I36, i37, ⟨oc32, H, Ho33⟩, rfl, HS⟩
 rcases k_ with _ | k43
 · exact no_ H
 replace H : sT.b1 l0 i14 (sT.l1 l0 i14 k43) k43 xs34 i37 = some oc32 := H
 unfold sT.b1 at H
 refine WC.seq fun _ hK44 => ?_
 refine sr_ fun _ hK45 => ?_
 refine mv_ ?_
 refine mv_ ?_
 refine mv_ ?_
 obtain ⟨⟨q46, q47⟩, H⟩ := if_some H
 obtain ⟨ad48, rfl⟩ := C_open (HS.getO 0 rfl) (by omega)
 refine v_ (ia_ underlying25 1 q46 q47) ?_
 obtain ⟨A49, c50, le51, HS⟩ := HS.slO 0 rfl i14 q46 q47
 refine v_ (Run.load rfl rfl underlying27 rfl (HS.getO 1 rfl)) ?_
 refine ln_ underlying27 ?_
 refine b_ bin_lss ?_
 refine dn_ hK45 ?_
 rcases eti_ H with ⟨c52, H⟩ | ⟨c52, H⟩
 · refine wn_ (dF c52) (WC.exit ?_)
   obtain rfl := os H
   exact wv_ iq X39 ⟨xs34, v35, I36, i37, Ho33, rfl, (St.pk HS [2] [0] rfl rfl)⟩
 refine wy_ (dT c52) (WC.skip (via_ hK44 (WC.seq fun _ hK53 => ?_)))
 refine WC.block (rg_ (mv_ ?_))
 refine mv_ ?_
 refine mv_ ?_
 refine v_ (ia_ underlying25 1 q46 q47) ?_
 refine v_ (Run.load rfl rfl underlying27 rfl (HS.getO 1 rfl)) ?_
 refine mv_ ?_
 obtain ⟨⟨q54, q55⟩, H⟩ := if_some H
 obtain ⟨ad56, rfl⟩ := C_open (HS.getO 0 rfl) (by omega)
 refine v_ (ia_ underlying27 1 q54 q55) ?_
 refine v_ (Run.load rfl rfl underlying3 rfl (int_cell (HS.getO 0 rfl) i37 q54 q55)) ?_
 refine b_ bin_add64 ?_
 obtain ⟨t57, ha58, H⟩ := bind_some H
 refine c_ func26 (spec_l11Two.runs k43 (wrap64 (((l0.getD i14.toNat []).getD i37.toNat 0) + 128)) t57 _  ha58) ?_
 clear ha58
 rintro _ w59 ⟨A60, c61, rfl, le62, hf63, hb⟩
 replace HS := HS.newNs hb (foot_cons hf63 foot_nil)
 refine ⟨_, rfl, ?_⟩
 clear hb
 obtain ⟨q64, H⟩ := if_some H
 obtain ⟨L65, hl66, h67, hF68, hc69⟩ := foot_all (HS.footN 0 rfl) (by decide) rfl
 replace HS := HS.addN (p := (rF kU t57 L65)) (fun W_ _ => hF68.now)
 refine WL.appendL HS 0 rfl rfl rfl (by decide) rfl (.int .u8 0) 1 underlying22 (by kernel_rfl) rfl (by decide) (by decide) rfl rfl L65 hl66 hc69 h67 (by omega) ((xs34 ++ t57).length) (by simp <;> omega) (fun v70 w71 I72 hI73 HS => ?_)
 dsimp only [List.set] at HS
 replace HS := HS.deriveN (p := (rF kU (xs34 ++ t57) I72)) (fun W_ hN_ => reps_more hI73 hN_.2.2.1 hN_.1)
 refine ad_ hK53 ?_
 refine rg_ (mv_ ?_)
 refine b_ bin_add64 ?_
 refine as_ ?_
 refine WL.done ?_
 exact wr_ k43 iq ⟨(xs34 ++ t57), v70, I72, (wrap64 (i37 + 1)), ⟨_, H, Ho33⟩, rfl, (St.pk HS [2] [0] rfl rfl)⟩
def sMT.b3 (x0 : S33) (rec_ : (List Int) → Int → Option ((List Int) × Int)) (k479 : Nat) (xs32 : List Int) (i35 : Int) : Option ((List Int) × Int) := (if i35 < (x0.f5.length : Int) then (if 0 ≤ i35 ∧ i35 < (x0.f5.length : Int) then (if (xs32.length) < 4294967296 then (rec_ (xs32 ++ [IntKind.u8.wrap (((x0.f5.getD i35.toNat o52).f6.f1.length : Int))]) (wrap64 (i35 + 1))) else none) else none) else (some (xs32, i35)))
def sMT.l3 (x0 : S33) : Nat → (List Int) → Int → Option ((List Int) × Int)
 | 0, _, _ => none
 | k + 1, xs32, i35 => sMT.b3 x0 (sMT.l3 x0 k) k xs32 i35
def sMT.b2 (x0 : S33) (rec_ : (List Int) → Int → Option ((List Int) × Int)) (k432 : Nat) (xs45 : List Int) (i48 : Int) : Option ((List Int) × Int) := (if i48 < (x0.f3.length : Int) then (if 0 ≤ i48 ∧ i48 < (x0.f3.length : Int) then ((spec_l11Two.g k432 ((x0.f3.getD i48.toNat o54).f0)).bind fun t443 => (if (xs45.length) + (t443.length) < 4294967296 then ((spec_l11Two.g k432 ((x0.f3.getD i48.toNat o54).f1)).bind fun t460 => (if (((xs45 ++ t443).length)) + (t460.length) < 4294967296 then (rec_ ((xs45 ++ t443) ++ t460) (wrap64 (i48 + 1))) else none)) else none)) else none) else (some (xs45, i48)))
def sMT.l2 (x0 : S33) : Nat → (List Int) → Int → Option ((List Int) × Int)
 | 0, _, _ => none
 | k + 1, xs45, i48 => sMT.b2 x0 (sMT.l2 x0 k) k xs45 i48
def sMT.b1 (x0 : S33) (rec_ : (List Int) → Int → Option ((List Int) × Int)) (k398 : Nat) (xs58 : List Int) (i61 : Int) : Option ((List Int) × Int) := (if i61 < (x0.f4.length : Int) then (if 0 ≤ i61 ∧ i61 < (x0.f4.length : Int) then ((sB1.g k398 (x0.f4.getD i61.toNat []) 128).bind fun t413 => (if (xs58.length) + (t413.length) < 4294967296 then (rec_ (xs58 ++ t413) (wrap64 (i61 + 1))) else none)) else none) else (some (xs58, i61)))
def sMT.l1 (x0 : S33) : Nat → (List Int) → Int → Option ((List Int) × Int)
 | 0, _, _ => none
 | k + 1, xs58, i61 => sMT.b1 x0 (sMT.l1 x0 k) k xs58 i61
def sMT.b0 (x0 : S33) (rec_ : (List Int) → Int → Option ((List Int) × Int)) (k183 : Nat) (xs71 : List Int) (i74 : Int) : Option ((List Int) × Int) := (if i74 < (x0.f5.length : Int) then (if 0 ≤ i74 ∧ i74 < (x0.f5.length : Int) then ((sB1.g k183 ((x0.f5.getD i74.toNat o52).f0) 0).bind fun t202 => (if (xs71.length) + (t202.length) < 4294967296 then ((sM1.g k183 ((x0.f5.getD i74.toNat o52).f1)).bind fun t228 => (if (((xs71 ++ t202).length)) + (t228.length) < 4294967296 then ((sM1.g k183 ((x0.f5.getD i74.toNat o52).f2)).bind fun t254 => (if ((((xs71 ++ t202) ++ t228).length)) + (t254.length) < 4294967296 then ((sM1.g k183 ((x0.f5.getD i74.toNat o52).f3)).bind fun t280 => (if (((((xs71 ++ t202) ++ t228) ++ t254).length)) + (t280.length) < 4294967296 then ((sM1.g k183 ((x0.f5.getD i74.toNat o52).f4)).bind fun t306 => (if ((((((xs71 ++ t202) ++ t228) ++ t254) ++ t280).length)) + (t306.length) < 4294967296 then ((sB1.g k183 ((x0.f5.getD i74.toNat o52).f5) 0).bind fun t328 => (if (((((((xs71 ++ t202) ++ t228) ++ t254) ++ t280) ++ t306).length)) + (t328.length) < 4294967296 then ((sM1.g k183 ((x0.f5.getD i74.toNat o52).f6)).bind fun t354 => (if ((((((((xs71 ++ t202) ++ t228) ++ t254) ++ t280) ++ t306) ++ t328).length)) + (t354.length) < 4294967296 then ((sM1.g k183 ((x0.f5.getD i74.toNat o52).f7)).bind fun t379 => (if (((((((((xs71 ++ t202) ++ t228) ++ t254) ++ t280) ++ t306) ++ t328) ++ t354).length)) + (t379.length) < 4294967296 then (rec_ ((((((((xs71 ++ t202) ++ t228) ++ t254) ++ t280) ++ t306) ++ t328) ++ t354) ++ t379) (wrap64 (i74 + 1))) else none)) else none)) else none)) else none)) else none)) else none)) else none)) else none)) else none) else (some (xs71, i74)))
def sMT.l0 (x0 : S33) : Nat → (List Int) → Int → Option ((List Int) × Int)
 | 0, _, _ => none
 | k + 1, xs71, i74 => sMT.b0 x0 (sMT.l0 x0 k) k xs71 i74
def sMT.g (k : Nat) (x0 : S33) : Option (ByteArray × Bool) := ((sMO1.g k x0).bind fun t6 => (if t6 = true then ((sMT.l3 x0 k ([84, 77, 49] ++ [IntKind.u8.wrap (x0.f0), IntKind.u8.wrap (x0.f1), IntKind.u8.wrap (x0.f2), IntKind.u8.wrap ((x0.f3.length : Int)), IntKind.u8.wrap ((x0.f5.length : Int))]) 0).bind (fun oc477 => ((sMT.l2 x0 k oc477.1 0).bind (fun oc430 => ((sMT.l1 x0 k oc430.1 0).bind (fun oc396 => ((sMT.l0 x0 k oc396.1 0).bind (fun oc181 => ((sB1.g k x0.f6 0).bind fun t83 => (if (oc181.1.length) + (t83.length) < 4294967296 then ((sM1.g k x0.f7).bind fun t109 => (if (((oc181.1 ++ t83).length)) + (t109.length) < 4294967296 then ((sT.g k x0.f8.f0).bind fun t136 => (if ((((oc181.1 ++ t83) ++ t109).length)) + (t136.length) < 4294967296 then ((sT.g k x0.f8.f1).bind fun t153 => (if (((((oc181.1 ++ t83) ++ t109) ++ t136).length)) + (t153.length) < 4294967296 then (if (wrap64 (((((((oc181.1 ++ t83) ++ t109) ++ t136) ++ t153).length) : Int) + 4)) > 12000 then (some ((⟨#[]⟩ : ByteArray), false)) else ((spec_Sealed.f k (strOfNums ((((oc181.1 ++ t83) ++ t109) ++ t136) ++ t153))).bind fun t178 => (some (t178.1, t178.2)))) else none)) else none)) else none)) else none)))))))))) else (some ((⟨#[]⟩ : ByteArray), false))))
theorem sMT.runs (k : Nat) (cs0 : List Value) (x0 : S33) (r1 : ByteArray) (r2 : Bool) (w : World) (hk0 : k33.K w x0 cs0) (H : sMT.g k x0 = some (r1, r2)) :
   Calls prog 8 #[.agg cs0.toArray] w fun e w' => e = .returned (.tuple #[.string r1, .bool r2]) ∧ Below w.heap.size w w' := by
 have el0 : cs0.length = 14 := k33.K_len hk0
 unfold sMT.g at H
 have HS : St (fun _ => True) w w [] [(kF k33 x0 cs0)] [] := St.start (foot_cons (foot_K h33 hk0) foot_nil)
 refine cw_ (n := 174) func8 fun R_ hR_ => ?_
 refine sr_ fun _ hK1 => ?_
 refine bo_ HS (fun b2 w3 hb2 HS => ?_)
 refine as_ ?_
 refine ad_ hK1 ?_
 clear hK1
 refine WC.seq fun _ hK4 => ?_
 refine sr_ fun _ hK5 => ?_
 refine v_ (Run.loadS (cs := cs0) rfl rfl underlying33 rfl (by rw [el0]; kernel_rfl) (box_part (HS.mu 0 rfl) part_all)) ?_
 obtain ⟨t6, ha7, H⟩ := bind_some H
 refine cs_ HS func10 (sMO1.runs k cs0 x0 t6 _ (HS.getO 0 rfl) ha7) (fun w8 HS => ?_)
 clear ha7
 refine nt_ ?_
 exact by (
 refine dn_ hK5 ?_
 clear hK5
 rcases eti_ H with ⟨c9, H⟩ | ⟨c9, H⟩
 · refine wy_ (nB (bF c9)) (sr_ fun _ hK498 => ?_)
   refine as_ ?_
   refine ad_ hK498 ?_
   clear hK498
   obtain ⟨rfl, rfl⟩ := Prod.mk.inj (os H)
   exact rt2 Try.f8 rfl rfl rfl hR_ ⟨rfl, HS.b⟩
 refine wn_ (nB c9) (WC.skip (via_ hK4 (sr_ fun _ hK10 => ?_)))
 clear hK4
 refine WL.litN HS (sz := 1) (z := (.int .u8 0)) rfl rfl (by decide) rfl [[.int .u8 84], [.int .u8 77], [.int .u8 49]] ⟨⟨rfl, _, rfl, rfl, rfl⟩, ⟨⟨rfl, _, rfl, rfl, rfl⟩, ⟨⟨rfl, _, rfl, rfl, rfl⟩, trivial⟩⟩⟩ rfl underlying22 (by kernel_rfl) (by decide) (by decide) (fun v11 w12 HS => ?_)
 replace HS := HS.deriveO (p := (rF kU [84, 77, 49] (List.flatten [[.int .u8 84], [.int .u8 77], [.int .u8 49]]))) (fun W_ hO_ hN_ => reps_lit ⟨(K_int _), ⟨(K_int _), ⟨(K_int _), trivial⟩⟩⟩)
 refine WL.mark HS 0 rfl rfl rfl (by decide) rfl underlying22 underlying5 rfl (by decide) (fun w13 HS => ?_)
 dsimp only [List.set] at HS
 refine v_ (fa_ underlying33) ?_
 exact by (
 refine v_ (lb_ (HS.mu 1 rfl) underlying3 (at33_0 (HS.aO 1 rfl)).int) ?_
 refine v_ (Run.convI rfl underlying3 underlying5 rfl) ?_
 refine v_ (fa_ underlying33) ?_
 refine v_ (lb_ (HS.mu 1 rfl) underlying3 (at33_1 (HS.aO 1 rfl)).int) ?_
 refine v_ (Run.convI rfl underlying3 underlying5 rfl) ?_
 refine v_ (fa_ underlying33) ?_
 refine v_ (lb_ (HS.mu 1 rfl) underlying3 (at33_2 (HS.aO 1 rfl)).int) ?_
 refine v_ (Run.convI rfl underlying3 underlying5 rfl) ?_
 refine v_ (fa_ underlying33) ?_
 obtain ⟨A14, c15, hc16, le17, HS⟩ := HS.sO 1 rfl at33_3
 refine v_ (lb_ (HS.mu 1 rfl) underlying24 hc16) ?_
 refine ln_ underlying24 ?_
 refine v_ (Run.convI rfl underlying3 underlying5 rfl) ?_
 refine v_ (fa_ underlying33) ?_
 obtain ⟨A18, c19, hc20, le21, HS⟩ := HS.sO 2 rfl at33_5
 refine v_ (lb_ (HS.mu 1 rfl) underlying26 hc20) ?_
 exact by (
 refine ln_ underlying26 ?_
 refine v_ (Run.convI rfl underlying3 underlying5 rfl) ?_
 refine WL.val rfl rfl (by decide) (Run.litN (sz := 1) (z := (.int .u8 0)) (L := [[.int .u8 (IntKind.u8.wrap (x0.f0))], [.int .u8 (IntKind.u8.wrap (x0.f1))], [.int .u8 (IntKind.u8.wrap (x0.f2))], [.int .u8 (IntKind.u8.wrap ((x0.f3.length : Int)))], [.int .u8 (IntKind.u8.wrap ((x0.f5.length : Int)))]]) rfl ⟨⟨rfl, _, rfl, rfl, rfl⟩, ⟨⟨rfl, _, rfl, rfl, rfl⟩, ⟨⟨rfl, _, rfl, rfl, rfl⟩, ⟨⟨rfl, _, rfl, rfl, rfl⟩, ⟨⟨rfl, _, rfl, rfl, rfl⟩, trivial⟩⟩⟩⟩⟩ rfl underlying22 (by kernel_rfl) (by decide) (by decide)) ?_
 have HS1 := HS.below (below_alloc (Below.refl _ _) (.cells (List.toArray [.int .u8 (IntKind.u8.wrap (x0.f0)), .int .u8 (IntKind.u8.wrap (x0.f1)), .int .u8 (IntKind.u8.wrap (x0.f2)), .int .u8 (IntKind.u8.wrap ((x0.f3.length : Int))), .int .u8 (IntKind.u8.wrap ((x0.f5.length : Int)))]) 5))
 refine WL.appendX HS1 0 rfl rfl rfl (by decide) rfl (.int .u8 0) 1 underlying22 (by kernel_rfl) rfl (by decide) (by decide) rfl rfl [.int .u8 (IntKind.u8.wrap (x0.f0)), .int .u8 (IntKind.u8.wrap (x0.f1)), .int .u8 (IntKind.u8.wrap (x0.f2)), .int .u8 (IntKind.u8.wrap ((x0.f3.length : Int))), .int .u8 (IntKind.u8.wrap ((x0.f5.length : Int)))] rfl (fun _ => ⟨_, rfl, lit_news _ _ _⟩) (oneL rfl) (by decide) (([84, 77, 49] ++ [IntKind.u8.wrap (x0.f0), IntKind.u8.wrap (x0.f1), IntKind.u8.wrap (x0.f2), IntKind.u8.wrap ((x0.f3.length : Int)), IntKind.u8.wrap ((x0.f5.length : Int))]).length) (by simp <;> omega) (fun v22 w23 I24 hI25 HS => ?_)
 dsimp only [List.set] at HS
 replace HS := HS.deriveO (p := (rF kU ([84, 77, 49] ++ [IntKind.u8.wrap (x0.f0), IntKind.u8.wrap (x0.f1), IntKind.u8.wrap (x0.f2), IntKind.u8.wrap ((x0.f3.length : Int)), IntKind.u8.wrap ((x0.f5.length : Int))]) I24)) (fun W_ hO_ hN_ => reps_more (J := List.flatten [[.int .u8 (IntKind.u8.wrap (x0.f0))], [.int .u8 (IntKind.u8.wrap (x0.f1))], [.int .u8 (IntKind.u8.wrap (x0.f2))], [.int .u8 (IntKind.u8.wrap ((x0.f3.length : Int)))], [.int .u8 (IntKind.u8.wrap ((x0.f5.length : Int)))]]) hI25 hO_.2.2.1 (reps_lit ⟨(K_int _), ⟨(K_int _), ⟨(K_int _), ⟨(K_int _), ⟨(K_int _), trivial⟩⟩⟩⟩⟩))
 clear HS1
 refine ad_ hK10 ?_
 clear hK10
 refine WC.seq fun K26 hK26 => ?_
 refine sr_ fun _ hK27 => ?_
 refine ad_ hK27 ?_
 clear hK27
 refine WC.block ?_
 obtain ⟨G28, hG29, oc30, H, Ho31⟩ := open_G H
 exact by (
 let J36 := fun (xs32 : List Int) v33 I34 (i35 : Int) (E_ : Env) (W_ : World) => E_ = [(1, .pointer (some ⟨b2, 0, none⟩)), (4, v33), (5, vi i35)] ∧ St (fun _ => True) w W_ [rowX w.heap.size 5 1 v33 xs32.length I34, boxM b2 cs0.toArray 33] [(rF kU xs32 I34), (cF k52 A18 x0.f5), (cF k54 A14 x0.f3), (kF k33 x0 cs0)] []
 have X37 : ∀ E_ W_, (∃ xs32 v33 I34 i35, G28 (xs32, i35) = some (r1, r2) ∧ J36 xs32 v33 I34 i35 E_ W_) → ∀ a, Fits a 174 E_ → K26 a W_ := by
   rintro E_ w38 ⟨xs32, v33, I34, i35, H, rfl, HS⟩
   rw [hG29] at H
   (try dsimp only at H)
   refine hK26 _ _ ?_
   clear hK26
   refine WC.seq fun K39 hK39 => ?_
   refine sr_ fun _ hK40 => ?_
   refine ad_ hK40 ?_
   clear hK40
   refine WC.block ?_
   obtain ⟨G41, hG42, oc43, H, Ho44⟩ := open_G H
   let J49 := fun (xs45 : List Int) v46 I47 (i48 : Int) (E_ : Env) (W_ : World) => E_ = [(1, .pointer (some ⟨b2, 0, none⟩)), (4, v46), (6, vi i48)] ∧ St (fun _ => True) w W_ [rowX w.heap.size 5 1 v46 xs45.length I47, boxM b2 cs0.toArray 33] [(rF kU xs45 I47), (cF k52 A18 x0.f5), (cF k54 A14 x0.f3), (kF k33 x0 cs0)] []
   have X50 : ∀ E_ W_, (∃ xs45 v46 I47 i48, G41 (xs45, i48) = some (r1, r2) ∧ J49 xs45 v46 I47 i48 E_ W_) → ∀ a, Fits a 174 E_ → K39 a W_ := by
     rintro E_ w51 ⟨xs45, v46, I47, i48, H, rfl, HS⟩
     exact by (
     rw [hG42] at H
     (try dsimp only at H)
     refine hK39 _ _ ?_
     clear hK39
     refine WC.seq fun K52 hK52 => ?_
     refine sr_ fun _ hK53 => ?_
     refine ad_ hK53 ?_
     clear hK53
     refine WC.block ?_
     obtain ⟨G54, hG55, oc56, H, Ho57⟩ := open_G H
     let J62 := fun (xs58 : List Int) v59 I60 (i61 : Int) (E_ : Env) (W_ : World) => E_ = [(1, .pointer (some ⟨b2, 0, none⟩)), (4, v59), (7, vi i61)] ∧ St (fun _ => True) w W_ [rowX w.heap.size 5 1 v59 xs58.length I60, boxM b2 cs0.toArray 33] [(rF kU xs58 I60), (cF k52 A18 x0.f5), (cF k54 A14 x0.f3), (kF k33 x0 cs0)] []
     have X63 : ∀ E_ W_, (∃ xs58 v59 I60 i61, G54 (xs58, i61) = some (r1, r2) ∧ J62 xs58 v59 I60 i61 E_ W_) → ∀ a, Fits a 174 E_ → K52 a W_ := by
       rintro E_ w64 ⟨xs58, v59, I60, i61, H, rfl, HS⟩
       rw [hG55] at H
       (try dsimp only at H)
       refine hK52 _ _ ?_
       exact by (
       clear hK52
       refine WC.seq fun K65 hK65 => ?_
       refine sr_ fun _ hK66 => ?_
       refine ad_ hK66 ?_
       clear hK66
       refine WC.block ?_
       obtain ⟨G67, hG68, oc69, H, Ho70⟩ := open_G H
       let J75 := fun (xs71 : List Int) v72 I73 (i74 : Int) (E_ : Env) (W_ : World) => E_ = [(1, .pointer (some ⟨b2, 0, none⟩)), (4, v72), (8, vi i74)] ∧ St (fun _ => True) w W_ [rowX w.heap.size 5 1 v72 xs71.length I73, boxM b2 cs0.toArray 33] [(rF kU xs71 I73), (cF k52 A18 x0.f5), (cF k54 A14 x0.f3), (kF k33 x0 cs0)] []
       have X76 : ∀ E_ W_, (∃ xs71 v72 I73 i74, G67 (xs71, i74) = some (r1, r2) ∧ J75 xs71 v72 I73 i74 E_ W_) → ∀ a, Fits a 174 E_ → K65 a W_ := by
         rintro E_ w77 ⟨xs71, v72, I73, i74, H, rfl, HS⟩
         rw [hG68] at H
         (try dsimp only at H)
         refine hK65 _ _ ?_
         clear hK65
         refine sr_ fun _ hK78 => ?_
         refine mv_ ?_
         exact by (
         refine v_ (fa_ underlying33) ?_
         obtain ⟨A79, c80, hc81, le82, HS⟩ := HS.sO 3 rfl at33_6
         refine v_ (lb_ (HS.mu 1 rfl) underlying27 hc81) ?_
         obtain ⟨t83, ha84, H⟩ := bind_some H
         refine c_ func27 (sB1.runs k A79 c80 x0.f6 0 t83 _ (HS.getO 0 rfl) le82 ha84) ?_
         clear ha84
         rintro _ w85 ⟨A86, c87, rfl, le88, hf89, hb⟩
         replace HS := HS.newNs hb (foot_cons hf89 foot_nil)
         refine ⟨_, rfl, ?_⟩
         clear hb
         obtain ⟨q90, H⟩ := if_some H
         obtain ⟨L91, hl92, h93, hF94, hc95⟩ := foot_all (HS.footN 0 rfl) (by decide) rfl
         replace HS := HS.addN (p := (rF kU t83 L91)) hF94
         refine WL.appendX HS 0 rfl rfl rfl (by decide) rfl (.int .u8 0) 1 underlying22 (by kernel_rfl) rfl (by decide) (by decide) rfl rfl L91 hl92 hc95 h93 (by omega) ((xs71 ++ t83).length) (by simp <;> omega) (fun v96 w97 I98 hI99 HS => ?_)
         dsimp only [List.set] at HS
         replace HS := HS.deriveO (p := (rF kU (xs71 ++ t83) I98)) (fun W_ hO_ hN_ => reps_more hI99 hO_.2.1 hN_.1)
         exact by (
         refine ad_ hK78 ?_
         clear hK78
         refine sr_ fun _ hK100 => ?_
         refine mv_ ?_
         refine v_ (fa_ underlying33) ?_
         obtain ⟨A101, c102, hc103, le104, HS⟩ := HS.sO 5 rfl at33_8
         obtain ⟨A105, c106, hc107, le108, HS⟩ := HS.sO 6 rfl at33_9
         refine v_ (ls_ (HS.mu 1 rfl) underlying29 (part_cons (at33_7 (HS.aO 7 rfl)).int (part_cons hc103 (part_cons hc107 (part_cons (at33_10 (HS.aO 7 rfl)).int (part_cons (at33_11 (HS.aO 7 rfl)).int part_nil)))))) ?_
         obtain ⟨t109, ha110, H⟩ := bind_some H
         refine c_ func28 (sM1.runs k x0.f7 A101 c102 A105 c106 t109 _ (HS.getO 1 rfl) le104 (HS.getO 0 rfl) le108 ha110) ?_
         clear ha110
         rintro _ w111 ⟨A112, c113, rfl, le114, hf115, hb⟩
         replace HS := HS.newNs hb (foot_cons hf115 foot_nil)
         refine ⟨_, rfl, ?_⟩
         clear hb
         obtain ⟨q116, H⟩ := if_some H
         exact by (
         obtain ⟨L117, hl118, h119, hF120, hc121⟩ := foot_all (HS.footN 0 rfl) (by decide) rfl
         replace HS := HS.addN (p := (rF kU t109 L117)) hF120
         refine WL.appendX HS 0 rfl rfl rfl (by decide) rfl (.int .u8 0) 1 underlying22 (by kernel_rfl) rfl (by decide) (by decide) rfl rfl L117 hl118 hc121 h119 (by omega) (((xs71 ++ t83) ++ t109).length) (by simp <;> omega) (fun v122 w123 I124 hI125 HS => ?_)
         dsimp only [List.set] at HS
         replace HS := HS.deriveO (p := (rF kU ((xs71 ++ t83) ++ t109) I124)) (fun W_ hO_ hN_ => reps_more hI125 hO_.2.2.1 hN_.1)
         refine ad_ hK100 ?_
         clear hK100
         refine WC.seq fun _ hK126 => ?_
         refine WC.drawW HS [boxM b2 cs0.toArray 33] (fun _ HS => ⟨(HS.mu 1 rfl), trivial⟩) [] rfl rfl (fun w127 HS => ?_)
         refine dm_ 0 ?_
         refine df_ 1 underlying33 ?_
         refine df_ 2 underlying31 ?_
         refine df_ 6 underlying33 ?_
         refine df_ 7 underlying31 ?_
         obtain ⟨A128, c129, hc130, le131, HS⟩ := HS.sO 8 rfl at33_12
         refine dt_ 3 ⟨HS.nowO.2, HS.nowN, ⟨(HS.mu 1 rfl), trivial⟩⟩ (fun w_ hw_ => Run.load rfl rfl underlying25 rfl (box_cell hw_.2.2.1 hc130)) ?_
         exact by (
         obtain ⟨A132, c133, hc134, le135, HS⟩ := HS.sO 9 rfl at33_13
         refine dt_ 8 ⟨HS.nowO.2.2, HS.nowN, ⟨(HS.mu 1 rfl), trivial⟩⟩ (fun w_ hw_ => Run.load rfl rfl underlying25 rfl (box_cell hw_.2.2.1 hc134)) ?_
         obtain ⟨t136, ha137, H⟩ := bind_some H
         refine dc_ 4 (w_none rfl) func29 (sT.runs k A128 c129 x0.f8.f0 t136 _ (HS.getO 1 rfl) le131 ha137) ?_
         clear ha137
         rintro _ w138 ⟨A139, c140, rfl, le141, hf142, hb⟩
         replace HS := HS.newNs hb (foot_cons hf142 foot_nil)
         refine ⟨⟨HS.nowO.2.2, HS.nowN.2, ⟨(HS.mu 1 rfl), trivial⟩⟩, _, rfl, ?_⟩
         clear hb
         obtain ⟨q143, H⟩ := if_some H
         obtain ⟨L144, hl145, h146, hF147, hc148⟩ := foot_all (HS.footN 0 rfl) (by decide) rfl
         replace HS := HS.addN (p := (rF kU t136 L144)) hF147
         refine WD.appendX 5 (w_none rfl) HS 0 rfl rfl (.int .u8 0) 1 underlying22 (by kernel_rfl) rfl (by decide) (by decide) rfl rfl L144 hl145 hc148 h146 (by omega) ((((xs71 ++ t83) ++ t109) ++ t136).length) (by simp <;> omega) (fun v149 w150 I151 hI152 HS => ?_)
         dsimp only [List.set] at HS
         replace HS := HS.deriveO (p := (rF kU (((xs71 ++ t83) ++ t109) ++ t136) I151)) (fun W_ hO_ hN_ => reps_more hI152 hO_.2.2.1 hN_.1)
         refine ⟨⟨HS.nowO.2.2.2, HS.nowN.2.2, ⟨(HS.mu 1 rfl), trivial⟩⟩, ?_⟩
         exact by (
         obtain ⟨t153, ha154, H⟩ := bind_some H
         refine dc_ 9 (w_none rfl) func29 (sT.runs k A132 c133 x0.f8.f1 t153 _ (HS.getO 1 rfl) le135 ha154) ?_
         clear ha154
         rintro _ w155 ⟨A156, c157, rfl, le158, hf159, hb⟩
         replace HS := HS.newNs hb (foot_cons hf159 foot_nil)
         refine ⟨⟨HS.nowO.2.2.2, HS.nowN.2.2.2, ⟨(HS.mu 1 rfl), trivial⟩⟩, _, rfl, ?_⟩
         clear hb
         obtain ⟨q160, H⟩ := if_some H
         obtain ⟨L161, hl162, h163, hF164, hc165⟩ := foot_all (HS.footN 0 rfl) (by decide) rfl
         replace HS := HS.addN (p := (rF kU t153 L161)) hF164
         refine WD.appendX 10 (w_none rfl) HS 0 rfl rfl (.int .u8 0) 1 underlying22 (by kernel_rfl) rfl (by decide) (by decide) rfl rfl L161 hl162 hc165 h163 (by omega) (((((xs71 ++ t83) ++ t109) ++ t136) ++ t153).length) (by simp <;> omega) (fun v166 w167 I168 hI169 HS => ?_)
         dsimp only [List.set] at HS
         replace HS := HS.deriveO (p := (rF kU ((((xs71 ++ t83) ++ t109) ++ t136) ++ t153) I168)) (fun W_ hO_ hN_ => reps_more hI169 hO_.1 hN_.1)
         refine ⟨⟨HS.nowO.2.2.2.2, HS.nowN.2.2.2.2, ⟨(HS.mu 1 rfl), trivial⟩⟩, ?_⟩
         refine dp_ 11 (fun _ => Run.assign rfl rfl) ?_
         refine dd_ (via_ hK126 (WC.seq fun _ hK170 => ?_))
         exact by (
         clear hK126
         refine sr_ fun _ hK171 => ?_
         refine mv_ ?_
         obtain ⟨A172, c173, rfl⟩ := rowX_slice (HS.mu 0 rfl)
         refine ln_ underlying22 ?_
         refine b_ bin_add64 ?_
         refine b_ bin_gtr ?_
         refine dn_ hK171 ?_
         clear hK171
         rcases ite_ H with ⟨c174, H⟩ | ⟨c174, H⟩
         · refine wy_ (dT c174) (sr_ fun _ hK175 => ?_)
           refine as_ ?_
           refine ad_ hK175 ?_
           clear hK175
           obtain ⟨rfl, rfl⟩ := Prod.mk.inj (os H)
           exact rt2 Try.f8 rfl rfl rfl hR_ ⟨rfl, HS.b⟩
         exact by (
         refine wn_ (dF c174) (WC.skip (via_ hK170 (sr_ fun _ hK176 => ?_)))
         clear hK170
         refine mv_ ?_
         have le177 := rowX_le (HS.mu 0 rfl)
         replace HS := HS.freezeO 0 (p := (cF kU A172 (((((xs71 ++ t83) ++ t109) ++ t136) ++ t153)))) rfl (fun W_ hm_ h_ => rowX_C (by rfl) hm_ h_.1)
         dsimp only [List.eraseIdx] at HS
         refine v_ (Run.str (xs := ((((xs71 ++ t83) ++ t109) ++ t136) ++ t153)) rfl underlying22 underlying5 underlying9 rfl (HS.getO 0 rfl)) ?_
         obtain ⟨t178, ha179, H⟩ := bind_some H
         refine cs_ HS func30 (spec_Sealed.calls k (strOfNums ((((xs71 ++ t83) ++ t109) ++ t136) ++ t153)) t178.1 t178.2 _ ha179) (fun w180 HS => ?_)
         clear ha179
         refine v_ (Run.extract rfl rfl rfl) ?_
         refine v_ (Run.extract rfl rfl rfl) ?_
         refine as_ ?_
         refine ad_ hK176 ?_
         clear hK176
         obtain ⟨rfl, rfl⟩ := Prod.mk.inj (os H)
         exact rt2 Try.f8 rfl rfl rfl hR_ ⟨rfl, HS.b⟩ )))))))
       exact by (
       clear hK65
       refine WC.loop (fun k_ E_ W_ => ∃ xs71 v72 I73 i74, (∃ o_, sMT.l0 x0 k_ xs71 i74 = some o_ ∧ G67 o_ = some (r1, r2)) ∧ J75 xs71 v72 I73 i74 E_ W_) k ⟨xs58, v59, I60, 0, ⟨_, H, Ho70⟩, rfl, HS⟩ (sb rfl) ?_
       rintro k_ E_ w182 ⟨xs71, v72, I73, i74, ⟨oc69, H, Ho70⟩, rfl, HS⟩
       rcases k_ with _ | k183
       · exact no_ H
       replace H : sMT.b0 x0 (sMT.l0 x0 k183) k183 xs71 i74 = some oc69 := H
       unfold sMT.b0 at H
       refine WC.seq fun _ hK184 => ?_
       refine sr_ fun _ hK185 => ?_
       refine mv_ ?_
       refine v_ (fa_ underlying33) ?_
       refine v_ (lb_ (HS.mu 1 rfl) underlying26 hc20) ?_
       refine ln_ underlying26 ?_
       refine b_ bin_lss ?_
       refine dn_ hK185 ?_
       clear hK185
       exact by (
       rcases eti_ H with ⟨c186, H⟩ | ⟨c186, H⟩
       · refine wn_ (dF c186) (WC.exit ?_)
         obtain rfl := os H
         exact wv_ iq X76 ⟨xs71, v72, I73, i74, Ho70, rfl, HS⟩
       refine wy_ (dT c186) (WC.skip (via_ hK184 (WC.seq fun _ hK187 => ?_)))
       clear hK184
       refine WC.block (sr_ fun _ hK188 => ?_)
       refine v_ (fa_ underlying33) ?_
       refine v_ (lb_ (HS.mu 1 rfl) underlying26 hc20) ?_
       refine mv_ ?_
       obtain ⟨⟨q189, q190⟩, H⟩ := if_some H
       obtain ⟨ad191, rfl⟩ := C_open (HS.getO 1 rfl) (by omega)
       refine v_ (ia_ underlying26 32 q189 q190) ?_
       obtain ⟨e192, el193, HS⟩ := HS.elO 1 rfl (by decide) o52 i74 q189 q190
       replace HS := HS.deriveO (p := (kF k52 (x0.f5.getD i74.toNat o52) e192)) (fun W_ hO_ hN_ => hO_.1.1)
       refine v_ (Run.loadS (cs := e192) rfl rfl underlying52 rfl (by rw [el193]; kernel_rfl) (HS.getO 1 rfl).2) ?_
       exact by (
       refine WL.alloc HS (v := .agg zz2) (cs := zz2) rfl rfl (by decide) rfl (by kernel_rfl) rfl (fun b194 w195 hb194 HS => ?_)
       refine WL.storeS HS 0 rfl rfl rfl rfl rfl rfl (Kd.K_one _ (HS.getO 0 rfl)) (by rw [el193]; kernel_rfl) (by rw [el193]; decide) (splice_all (by rw [el193]; rfl)) (fun w196 HS => ?_)
       dsimp only [List.set] at HS
       refine dn_ hK188 (sr_ fun _ hK197 => ?_)
       clear hK188
       refine mv_ ?_
       refine v_ (fa_ underlying52) ?_
       obtain ⟨A198, c199, hc200, le201, HS⟩ := HS.sO 0 rfl at52_0
       refine v_ (lb_ (HS.mu 0 rfl) underlying27 hc200) ?_
       obtain ⟨t202, ha203, H⟩ := bind_some H
       refine c_ func27 (sB1.runs k183 A198 c199 ((x0.f5.getD i74.toNat o52).f0) 0 t202 _ (HS.getO 0 rfl) le201 ha203) ?_
       clear ha203
       rintro _ w204 ⟨A205, c206, rfl, le207, hf208, hb⟩
       replace HS := HS.newNs hb (foot_cons hf208 foot_nil)
       refine ⟨_, rfl, ?_⟩
       clear hb
       exact by (
       obtain ⟨q209, H⟩ := if_some H
       obtain ⟨L210, hl211, h212, hF213, hc214⟩ := foot_all (HS.footN 0 rfl) (by decide) rfl
       replace HS := HS.addN (p := (rF kU t202 L210)) hF213
       refine WL.appendX HS 1 rfl rfl rfl (by decide) rfl (.int .u8 0) 1 underlying22 (by kernel_rfl) rfl (by decide) (by decide) rfl rfl L210 hl211 hc214 h212 (by omega) ((xs71 ++ t202).length) (by simp <;> omega) (fun v215 w216 I217 hI218 HS => ?_)
       dsimp only [List.set] at HS
       replace HS := HS.deriveO (p := (rF kU (xs71 ++ t202) I217)) (fun W_ hO_ hN_ => reps_more hI218 hO_.2.2.2.1 hN_.1)
       refine ad_ hK197 ?_
       clear hK197
       refine sr_ fun _ hK219 => ?_
       refine mv_ ?_
       refine v_ (fa_ underlying52) ?_
       obtain ⟨A220, c221, hc222, le223, HS⟩ := HS.sO 2 rfl at52_2
       obtain ⟨A224, c225, hc226, le227, HS⟩ := HS.sO 3 rfl at52_3
       refine v_ (ls_ (HS.mu 0 rfl) underlying29 (part_cons (at52_1 (HS.aO 4 rfl)).int (part_cons hc222 (part_cons hc226 (part_cons (at52_4 (HS.aO 4 rfl)).int (part_cons (at52_5 (HS.aO 4 rfl)).int part_nil)))))) ?_
       obtain ⟨t228, ha229, H⟩ := bind_some H
       refine c_ func28 (sM1.runs k183 ((x0.f5.getD i74.toNat o52).f1) A220 c221 A224 c225 t228 _ (HS.getO 1 rfl) le223 (HS.getO 0 rfl) le227 ha229) ?_
       exact by (
       clear ha229
       rintro _ w230 ⟨A231, c232, rfl, le233, hf234, hb⟩
       replace HS := HS.newNs hb (foot_cons hf234 foot_nil)
       refine ⟨_, rfl, ?_⟩
       clear hb
       obtain ⟨q235, H⟩ := if_some H
       obtain ⟨L236, hl237, h238, hF239, hc240⟩ := foot_all (HS.footN 0 rfl) (by decide) rfl
       replace HS := HS.addN (p := (rF kU t228 L236)) hF239
       refine WL.appendX HS 1 rfl rfl rfl (by decide) rfl (.int .u8 0) 1 underlying22 (by kernel_rfl) rfl (by decide) (by decide) rfl rfl L236 hl237 hc240 h238 (by omega) (((xs71 ++ t202) ++ t228).length) (by simp <;> omega) (fun v241 w242 I243 hI244 HS => ?_)
       dsimp only [List.set] at HS
       replace HS := HS.deriveO (p := (rF kU ((xs71 ++ t202) ++ t228) I243)) (fun W_ hO_ hN_ => reps_more hI244 hO_.2.2.1 hN_.1)
       refine ad_ hK219 ?_
       clear hK219
       refine sr_ fun _ hK245 => ?_
       refine mv_ ?_
       refine v_ (fa_ underlying52) ?_
       exact by (
       obtain ⟨A246, c247, hc248, le249, HS⟩ := HS.sO 5 rfl at52_7
       obtain ⟨A250, c251, hc252, le253, HS⟩ := HS.sO 6 rfl at52_8
       refine v_ (ls_ (HS.mu 0 rfl) underlying29 (part_cons (at52_6 (HS.aO 7 rfl)).int (part_cons hc248 (part_cons hc252 (part_cons (at52_9 (HS.aO 7 rfl)).int (part_cons (at52_10 (HS.aO 7 rfl)).int part_nil)))))) ?_
       obtain ⟨t254, ha255, H⟩ := bind_some H
       refine c_ func28 (sM1.runs k183 ((x0.f5.getD i74.toNat o52).f2) A246 c247 A250 c251 t254 _ (HS.getO 1 rfl) le249 (HS.getO 0 rfl) le253 ha255) ?_
       clear ha255
       rintro _ w256 ⟨A257, c258, rfl, le259, hf260, hb⟩
       replace HS := HS.newNs hb (foot_cons hf260 foot_nil)
       refine ⟨_, rfl, ?_⟩
       clear hb
       obtain ⟨q261, H⟩ := if_some H
       obtain ⟨L262, hl263, h264, hF265, hc266⟩ := foot_all (HS.footN 0 rfl) (by decide) rfl
       replace HS := HS.addN (p := (rF kU t254 L262)) hF265
       refine WL.appendX HS 1 rfl rfl rfl (by decide) rfl (.int .u8 0) 1 underlying22 (by kernel_rfl) rfl (by decide) (by decide) rfl rfl L262 hl263 hc266 h264 (by omega) ((((xs71 ++ t202) ++ t228) ++ t254).length) (by simp <;> omega) (fun v267 w268 I269 hI270 HS => ?_)
       dsimp only [List.set] at HS
       replace HS := HS.deriveO (p := (rF kU (((xs71 ++ t202) ++ t228) ++ t254) I269)) (fun W_ hO_ hN_ => reps_more hI270 hO_.2.2.1 hN_.1)
       exact by (
       refine ad_ hK245 ?_
       clear hK245
       refine sr_ fun _ hK271 => ?_
       refine mv_ ?_
       refine v_ (fa_ underlying52) ?_
       obtain ⟨A272, c273, hc274, le275, HS⟩ := HS.sO 8 rfl at52_12
       obtain ⟨A276, c277, hc278, le279, HS⟩ := HS.sO 9 rfl at52_13
       refine v_ (ls_ (HS.mu 0 rfl) underlying29 (part_cons (at52_11 (HS.aO 10 rfl)).int (part_cons hc274 (part_cons hc278 (part_cons (at52_14 (HS.aO 10 rfl)).int (part_cons (at52_15 (HS.aO 10 rfl)).int part_nil)))))) ?_
       obtain ⟨t280, ha281, H⟩ := bind_some H
       refine c_ func28 (sM1.runs k183 ((x0.f5.getD i74.toNat o52).f3) A272 c273 A276 c277 t280 _ (HS.getO 1 rfl) le275 (HS.getO 0 rfl) le279 ha281) ?_
       clear ha281
       rintro _ w282 ⟨A283, c284, rfl, le285, hf286, hb⟩
       replace HS := HS.newNs hb (foot_cons hf286 foot_nil)
       refine ⟨_, rfl, ?_⟩
       clear hb
       obtain ⟨q287, H⟩ := if_some H
       exact by (
       obtain ⟨L288, hl289, h290, hF291, hc292⟩ := foot_all (HS.footN 0 rfl) (by decide) rfl
       replace HS := HS.addN (p := (rF kU t280 L288)) hF291
       refine WL.appendX HS 1 rfl rfl rfl (by decide) rfl (.int .u8 0) 1 underlying22 (by kernel_rfl) rfl (by decide) (by decide) rfl rfl L288 hl289 hc292 h290 (by omega) (((((xs71 ++ t202) ++ t228) ++ t254) ++ t280).length) (by simp <;> omega) (fun v293 w294 I295 hI296 HS => ?_)
       dsimp only [List.set] at HS
       replace HS := HS.deriveO (p := (rF kU ((((xs71 ++ t202) ++ t228) ++ t254) ++ t280) I295)) (fun W_ hO_ hN_ => reps_more hI296 hO_.2.2.1 hN_.1)
       refine ad_ hK271 ?_
       clear hK271
       refine sr_ fun _ hK297 => ?_
       refine mv_ ?_
       refine v_ (fa_ underlying52) ?_
       obtain ⟨A298, c299, hc300, le301, HS⟩ := HS.sO 11 rfl at52_17
       obtain ⟨A302, c303, hc304, le305, HS⟩ := HS.sO 12 rfl at52_18
       refine v_ (ls_ (HS.mu 0 rfl) underlying29 (part_cons (at52_16 (HS.aO 13 rfl)).int (part_cons hc300 (part_cons hc304 (part_cons (at52_19 (HS.aO 13 rfl)).int (part_cons (at52_20 (HS.aO 13 rfl)).int part_nil)))))) ?_
       obtain ⟨t306, ha307, H⟩ := bind_some H
       refine c_ func28 (sM1.runs k183 ((x0.f5.getD i74.toNat o52).f4) A298 c299 A302 c303 t306 _ (HS.getO 1 rfl) le301 (HS.getO 0 rfl) le305 ha307) ?_
       clear ha307
       exact by (
       rintro _ w308 ⟨A309, c310, rfl, le311, hf312, hb⟩
       replace HS := HS.newNs hb (foot_cons hf312 foot_nil)
       refine ⟨_, rfl, ?_⟩
       clear hb
       obtain ⟨q313, H⟩ := if_some H
       obtain ⟨L314, hl315, h316, hF317, hc318⟩ := foot_all (HS.footN 0 rfl) (by decide) rfl
       replace HS := HS.addN (p := (rF kU t306 L314)) hF317
       refine WL.appendX HS 1 rfl rfl rfl (by decide) rfl (.int .u8 0) 1 underlying22 (by kernel_rfl) rfl (by decide) (by decide) rfl rfl L314 hl315 hc318 h316 (by omega) ((((((xs71 ++ t202) ++ t228) ++ t254) ++ t280) ++ t306).length) (by simp <;> omega) (fun v319 w320 I321 hI322 HS => ?_)
       dsimp only [List.set] at HS
       replace HS := HS.deriveO (p := (rF kU (((((xs71 ++ t202) ++ t228) ++ t254) ++ t280) ++ t306) I321)) (fun W_ hO_ hN_ => reps_more hI322 hO_.2.2.1 hN_.1)
       refine ad_ hK297 ?_
       clear hK297
       refine sr_ fun _ hK323 => ?_
       refine mv_ ?_
       refine v_ (fa_ underlying52) ?_
       obtain ⟨A324, c325, hc326, le327, HS⟩ := HS.sO 14 rfl at52_21
       exact by (
       refine v_ (lb_ (HS.mu 0 rfl) underlying27 hc326) ?_
       obtain ⟨t328, ha329, H⟩ := bind_some H
       refine c_ func27 (sB1.runs k183 A324 c325 ((x0.f5.getD i74.toNat o52).f5) 0 t328 _ (HS.getO 0 rfl) le327 ha329) ?_
       clear ha329
       rintro _ w330 ⟨A331, c332, rfl, le333, hf334, hb⟩
       replace HS := HS.newNs hb (foot_cons hf334 foot_nil)
       refine ⟨_, rfl, ?_⟩
       clear hb
       obtain ⟨q335, H⟩ := if_some H
       obtain ⟨L336, hl337, h338, hF339, hc340⟩ := foot_all (HS.footN 0 rfl) (by decide) rfl
       replace HS := HS.addN (p := (rF kU t328 L336)) hF339
       refine WL.appendX HS 1 rfl rfl rfl (by decide) rfl (.int .u8 0) 1 underlying22 (by kernel_rfl) rfl (by decide) (by decide) rfl rfl L336 hl337 hc340 h338 (by omega) (((((((xs71 ++ t202) ++ t228) ++ t254) ++ t280) ++ t306) ++ t328).length) (by simp <;> omega) (fun v341 w342 I343 hI344 HS => ?_)
       dsimp only [List.set] at HS
       replace HS := HS.deriveO (p := (rF kU ((((((xs71 ++ t202) ++ t228) ++ t254) ++ t280) ++ t306) ++ t328) I343)) (fun W_ hO_ hN_ => reps_more hI344 hO_.2.1 hN_.1)
       refine ad_ hK323 ?_
       clear hK323
       exact by (
       refine sr_ fun _ hK345 => ?_
       refine mv_ ?_
       refine v_ (fa_ underlying52) ?_
       obtain ⟨A346, c347, hc348, le349, HS⟩ := HS.sO 16 rfl at52_23
       obtain ⟨A350, c351, hc352, le353, HS⟩ := HS.sO 17 rfl at52_24
       refine v_ (ls_ (HS.mu 0 rfl) underlying29 (part_cons (at52_22 (HS.aO 18 rfl)).int (part_cons hc348 (part_cons hc352 (part_cons (at52_25 (HS.aO 18 rfl)).int (part_cons (at52_26 (HS.aO 18 rfl)).int part_nil)))))) ?_
       obtain ⟨t354, ha355, H⟩ := bind_some H
       refine c_ func28 (sM1.runs k183 ((x0.f5.getD i74.toNat o52).f6) A346 c347 A350 c351 t354 _ (HS.getO 1 rfl) le349 (HS.getO 0 rfl) le353 ha355) ?_
       clear ha355
       rintro _ w356 ⟨A357, c358, rfl, le359, hf360, hb⟩
       replace HS := HS.newNs hb (foot_cons hf360 foot_nil)
       refine ⟨_, rfl, ?_⟩
       clear hb
       obtain ⟨q361, H⟩ := if_some H
       obtain ⟨L362, hl363, h364, hF365, hc366⟩ := foot_all (HS.footN 0 rfl) (by decide) rfl
       replace HS := HS.addN (p := (rF kU t354 L362)) hF365
       exact by (
       refine WL.appendX HS 1 rfl rfl rfl (by decide) rfl (.int .u8 0) 1 underlying22 (by kernel_rfl) rfl (by decide) (by decide) rfl rfl L362 hl363 hc366 h364 (by omega) ((((((((xs71 ++ t202) ++ t228) ++ t254) ++ t280) ++ t306) ++ t328) ++ t354).length) (by simp <;> omega) (fun v367 w368 I369 hI370 HS => ?_)
       dsimp only [List.set] at HS
       replace HS := HS.deriveO (p := (rF kU (((((((xs71 ++ t202) ++ t228) ++ t254) ++ t280) ++ t306) ++ t328) ++ t354) I369)) (fun W_ hO_ hN_ => reps_more hI370 hO_.2.2.1 hN_.1)
       refine ad_ hK345 ?_
       clear hK345
       refine rg_ (mv_ ?_)
       refine v_ (fa_ underlying52) ?_
       obtain ⟨A371, c372, hc373, le374, HS⟩ := HS.sO 19 rfl at52_28
       obtain ⟨A375, c376, hc377, le378, HS⟩ := HS.sO 20 rfl at52_29
       refine v_ (ls_ (HS.mu 0 rfl) underlying29 (part_cons (at52_27 (HS.aO 21 rfl)).int (part_cons hc373 (part_cons hc377 (part_cons (at52_30 (HS.aO 21 rfl)).int (part_cons (at52_31 (HS.aO 21 rfl)).int part_nil)))))) ?_
       obtain ⟨t379, ha380, H⟩ := bind_some H
       refine c_ func28 (sM1.runs k183 ((x0.f5.getD i74.toNat o52).f7) A371 c372 A375 c376 t379 _ (HS.getO 1 rfl) le374 (HS.getO 0 rfl) le378 ha380) ?_
       clear ha380
       rintro _ w381 ⟨A382, c383, rfl, le384, hf385, hb⟩
       replace HS := HS.newNs hb (foot_cons hf385 foot_nil)
       refine ⟨_, rfl, ?_⟩
       exact by (
       clear hb
       obtain ⟨q386, H⟩ := if_some H
       obtain ⟨L387, hl388, h389, hF390, hc391⟩ := foot_all (HS.footN 0 rfl) (by decide) rfl
       replace HS := HS.addN (p := (rF kU t379 L387)) hF390
       refine WL.appendX HS 1 rfl rfl rfl (by decide) rfl (.int .u8 0) 1 underlying22 (by kernel_rfl) rfl (by decide) (by decide) rfl rfl L387 hl388 hc391 h389 (by omega) (((((((((xs71 ++ t202) ++ t228) ++ t254) ++ t280) ++ t306) ++ t328) ++ t354) ++ t379).length) (by simp <;> omega) (fun v392 w393 I394 hI395 HS => ?_)
       dsimp only [List.set] at HS
       replace HS := HS.deriveO (p := (rF kU ((((((((xs71 ++ t202) ++ t228) ++ t254) ++ t280) ++ t306) ++ t328) ++ t354) ++ t379) I394)) (fun W_ hO_ hN_ => reps_more hI395 hO_.2.2.1 hN_.1)
       refine ad_ hK187 ?_
       clear hK187
       refine rg_ (mv_ ?_)
       refine b_ bin_add64 ?_
       refine as_ ?_
       refine WL.done ?_
       exact wr_ k183 iq ⟨((((((((xs71 ++ t202) ++ t228) ++ t254) ++ t280) ++ t306) ++ t328) ++ t354) ++ t379), v392, I394, (wrap64 (i74 + 1)), ⟨_, H, Ho70⟩, rfl, (St.pk (St.forget HS 0 rfl) [0, 25, 26, 27] [] rfl rfl)⟩ ))))))))))))))
     clear hK52
     refine WC.loop (fun k_ E_ W_ => ∃ xs58 v59 I60 i61, (∃ o_, sMT.l1 x0 k_ xs58 i61 = some o_ ∧ G54 o_ = some (r1, r2)) ∧ J62 xs58 v59 I60 i61 E_ W_) k ⟨xs45, v46, I47, 0, ⟨_, H, Ho57⟩, rfl, HS⟩ (sb rfl) ?_
     exact by (
     rintro k_ E_ w397 ⟨xs58, v59, I60, i61, ⟨oc56, H, Ho57⟩, rfl, HS⟩
     rcases k_ with _ | k398
     · exact no_ H
     replace H : sMT.b1 x0 (sMT.l1 x0 k398) k398 xs58 i61 = some oc56 := H
     unfold sMT.b1 at H
     refine WC.seq fun _ hK399 => ?_
     refine sr_ fun _ hK400 => ?_
     refine mv_ ?_
     refine v_ (fa_ underlying33) ?_
     obtain ⟨A401, c402, hc403, le404, HS⟩ := HS.sO 3 rfl at33_4
     refine v_ (lb_ (HS.mu 1 rfl) underlying25 hc403) ?_
     refine ln_ underlying25 ?_
     refine b_ bin_lss ?_
     refine dn_ hK400 ?_
     clear hK400
     rcases eti_ H with ⟨c405, H⟩ | ⟨c405, H⟩
     · refine wn_ (dF c405) (WC.exit ?_)
       obtain rfl := os H
       exact wv_ iq X63 ⟨xs58, v59, I60, i61, Ho57, rfl, (St.pk HS [1, 2, 3, 4] [] rfl rfl)⟩
     exact by (
     refine wy_ (dT c405) (WC.skip (via_ hK399 (WC.seq fun _ hK406 => ?_)))
     clear hK399
     refine WC.block (rg_ (mv_ ?_))
     refine v_ (fa_ underlying33) ?_
     refine v_ (lb_ (HS.mu 1 rfl) underlying25 hc403) ?_
     refine mv_ ?_
     obtain ⟨⟨q407, q408⟩, H⟩ := if_some H
     obtain ⟨ad409, rfl⟩ := C_open (HS.getO 0 rfl) (by omega)
     refine v_ (ia_ underlying25 1 q407 q408) ?_
     obtain ⟨A410, c411, le412, HS⟩ := HS.slO 0 rfl i61 q407 q408
     refine v_ (Run.load rfl rfl underlying27 rfl (HS.getO 1 rfl)) ?_
     obtain ⟨t413, ha414, H⟩ := bind_some H
     refine c_ func27 (sB1.runs k398 A410 c411 (x0.f4.getD i61.toNat []) 128 t413 _ (HS.getO 0 rfl) le412 ha414) ?_
     clear ha414
     rintro _ w415 ⟨A416, c417, rfl, le418, hf419, hb⟩
     replace HS := HS.newNs hb (foot_cons hf419 foot_nil)
     exact by (
     refine ⟨_, rfl, ?_⟩
     clear hb
     obtain ⟨q420, H⟩ := if_some H
     obtain ⟨L421, hl422, h423, hF424, hc425⟩ := foot_all (HS.footN 0 rfl) (by decide) rfl
     replace HS := HS.addN (p := (rF kU t413 L421)) hF424
     refine WL.appendX HS 0 rfl rfl rfl (by decide) rfl (.int .u8 0) 1 underlying22 (by kernel_rfl) rfl (by decide) (by decide) rfl rfl L421 hl422 hc425 h423 (by omega) ((xs58 ++ t413).length) (by simp <;> omega) (fun v426 w427 I428 hI429 HS => ?_)
     dsimp only [List.set] at HS
     replace HS := HS.deriveO (p := (rF kU (xs58 ++ t413) I428)) (fun W_ hO_ hN_ => reps_more hI429 hO_.2.2.2.1 hN_.1)
     refine ad_ hK406 ?_
     clear hK406
     refine rg_ (mv_ ?_)
     refine b_ bin_add64 ?_
     refine as_ ?_
     refine WL.done ?_
     exact wr_ k398 iq ⟨(xs58 ++ t413), v426, I428, (wrap64 (i61 + 1)), ⟨_, H, Ho57⟩, rfl, (St.pk HS [0, 5, 6, 7] [] rfl rfl)⟩ ))))
   clear hK39
   exact by (
   refine WC.loop (fun k_ E_ W_ => ∃ xs45 v46 I47 i48, (∃ o_, sMT.l2 x0 k_ xs45 i48 = some o_ ∧ G41 o_ = some (r1, r2)) ∧ J49 xs45 v46 I47 i48 E_ W_) k ⟨xs32, v33, I34, 0, ⟨_, H, Ho44⟩, rfl, HS⟩ (sb rfl) ?_
   rintro k_ E_ w431 ⟨xs45, v46, I47, i48, ⟨oc43, H, Ho44⟩, rfl, HS⟩
   rcases k_ with _ | k432
   · exact no_ H
   replace H : sMT.b2 x0 (sMT.l2 x0 k432) k432 xs45 i48 = some oc43 := H
   unfold sMT.b2 at H
   refine WC.seq fun _ hK433 => ?_
   refine sr_ fun _ hK434 => ?_
   refine mv_ ?_
   refine v_ (fa_ underlying33) ?_
   refine v_ (lb_ (HS.mu 1 rfl) underlying24 hc16) ?_
   refine ln_ underlying24 ?_
   refine b_ bin_lss ?_
   refine dn_ hK434 ?_
   clear hK434
   rcases eti_ H with ⟨c435, H⟩ | ⟨c435, H⟩
   · refine wn_ (dF c435) (WC.exit ?_)
     obtain rfl := os H
     exact wv_ iq X50 ⟨xs45, v46, I47, i48, Ho44, rfl, HS⟩
   exact by (
   refine wy_ (dT c435) (WC.skip (via_ hK433 (WC.seq fun _ hK436 => ?_)))
   clear hK433
   refine WC.block (WC.drawW HS [boxM b2 cs0.toArray 33] (fun _ HS => ⟨(HS.mu 1 rfl), trivial⟩) [] rfl rfl (fun w437 HS => ?_))
   refine dm_ 0 ?_
   refine df_ 1 underlying33 ?_
   refine dm_ 3 ?_
   refine df_ 9 underlying33 ?_
   refine dm_ 11 ?_
   refine dt_ 2 ⟨HS.nowO, HS.nowN, ⟨(HS.mu 1 rfl), trivial⟩⟩ (fun w_ hw_ => Run.load rfl rfl underlying24 rfl (box_cell hw_.2.2.1 hc16)) ?_
   obtain ⟨⟨q438, q439⟩, H⟩ := if_some H
   obtain ⟨ad440, rfl⟩ := C_open (HS.getO 2 rfl) (by omega)
   refine di_ 4 underlying24 2 q438 q439 ?_
   refine df_ 5 underlying54 ?_
   obtain ⟨e441, el442, HS⟩ := HS.elO 2 rfl (by decide) o54 i48 q438 q439
   refine dt_ 6 ⟨HS.nowO.2, HS.nowN, ⟨(HS.mu 1 rfl), trivial⟩⟩ (fun w_ hw_ => Run.load rfl rfl underlying3 rfl (el_at (AllF.get 2 rfl hw_.1) o54 i48 q438 q439 (fun _ h_ => (at54_0 (AtK.whole h_)).int))) ?_
   refine dt_ 10 ⟨HS.nowO.2, HS.nowN, ⟨(HS.mu 1 rfl), trivial⟩⟩ (fun w_ hw_ => Run.load rfl rfl underlying24 rfl (box_cell hw_.2.2.1 hc16)) ?_
   exact by (
   refine di_ 12 underlying24 2 q438 q439 ?_
   refine df_ 13 underlying54 ?_
   refine dt_ 14 ⟨HS.nowO.2, HS.nowN, ⟨(HS.mu 1 rfl), trivial⟩⟩ (fun w_ hw_ => Run.load rfl rfl underlying3 rfl (el_at (AllF.get 2 rfl hw_.1) o54 i48 q438 q439 (fun _ h_ => (at54_1 (AtK.whole h_)).int))) ?_
   obtain ⟨t443, ha444, H⟩ := bind_some H
   refine dc_ 7 (w_none rfl) func26 (spec_l11Two.runs k432 ((x0.f3.getD i48.toNat o54).f0) t443 _  ha444) ?_
   clear ha444
   rintro _ w445 ⟨A446, c447, rfl, le448, hf449, hb⟩
   replace HS := HS.newNs hb (foot_cons hf449 foot_nil)
   refine ⟨⟨HS.nowO.2, HS.nowN.2, ⟨(HS.mu 1 rfl), trivial⟩⟩, _, rfl, ?_⟩
   clear hb
   obtain ⟨q450, H⟩ := if_some H
   obtain ⟨L451, hl452, h453, hF454, hc455⟩ := foot_all (HS.footN 0 rfl) (by decide) rfl
   replace HS := HS.addN (p := (rF kU t443 L451)) hF454
   refine WD.appendX 8 (w_none rfl) HS 0 rfl rfl (.int .u8 0) 1 underlying22 (by kernel_rfl) rfl (by decide) (by decide) rfl rfl L451 hl452 hc455 h453 (by omega) ((xs45 ++ t443).length) (by simp <;> omega) (fun v456 w457 I458 hI459 HS => ?_)
   dsimp only [List.set] at HS
   replace HS := HS.deriveO (p := (rF kU (xs45 ++ t443) I458)) (fun W_ hO_ hN_ => reps_more hI459 hO_.2.1 hN_.1)
   exact by (
   refine ⟨⟨HS.nowO.2.2, HS.nowN.2.2, ⟨(HS.mu 1 rfl), trivial⟩⟩, ?_⟩
   obtain ⟨t460, ha461, H⟩ := bind_some H
   refine dc_ 15 (w_none rfl) func26 (spec_l11Two.runs k432 ((x0.f3.getD i48.toNat o54).f1) t460 _  ha461) ?_
   clear ha461
   rintro _ w462 ⟨A463, c464, rfl, le465, hf466, hb⟩
   replace HS := HS.newNs hb (foot_cons hf466 foot_nil)
   refine ⟨⟨HS.nowO.2.2, HS.nowN.2.2.2, ⟨(HS.mu 1 rfl), trivial⟩⟩, _, rfl, ?_⟩
   clear hb
   obtain ⟨q467, H⟩ := if_some H
   obtain ⟨L468, hl469, h470, hF471, hc472⟩ := foot_all (HS.footN 0 rfl) (by decide) rfl
   replace HS := HS.addN (p := (rF kU t460 L468)) hF471
   refine WD.appendX 16 (w_none rfl) HS 0 rfl rfl (.int .u8 0) 1 underlying22 (by kernel_rfl) rfl (by decide) (by decide) rfl rfl L468 hl469 hc472 h470 (by omega) (((xs45 ++ t443) ++ t460).length) (by simp <;> omega) (fun v473 w474 I475 hI476 HS => ?_)
   dsimp only [List.set] at HS
   replace HS := HS.deriveO (p := (rF kU ((xs45 ++ t443) ++ t460) I475)) (fun W_ hO_ hN_ => reps_more hI476 hO_.1 hN_.1)
   refine ⟨⟨HS.nowO.2.2.2, HS.nowN.2.2.2.2, ⟨(HS.mu 1 rfl), trivial⟩⟩, ?_⟩
   refine dp_ 17 (fun _ => Run.assign rfl rfl) ?_
   exact by (
   refine dd_ (via_ hK436 (rg_ (mv_ ?_)))
   clear hK436
   refine b_ bin_add64 ?_
   refine as_ ?_
   refine WL.done ?_
   exact wr_ k432 iq ⟨((xs45 ++ t443) ++ t460), v473, I475, (wrap64 (i48 + 1)), ⟨_, H, Ho44⟩, rfl, (St.pk HS [0, 4, 5, 6] [] rfl rfl)⟩ )))))
 clear hK26
 refine WC.loop (fun k_ E_ W_ => ∃ xs32 v33 I34 i35, (∃ o_, sMT.l3 x0 k_ xs32 i35 = some o_ ∧ G28 o_ = some (r1, r2)) ∧ J36 xs32 v33 I34 i35 E_ W_) k ⟨([84, 77, 49] ++ [IntKind.u8.wrap (x0.f0), IntKind.u8.wrap (x0.f1), IntKind.u8.wrap (x0.f2), IntKind.u8.wrap ((x0.f3.length : Int)), IntKind.u8.wrap ((x0.f5.length : Int))]), v22, I24, 0, ⟨_, H, Ho31⟩, rfl, (St.pk HS [0, 1, 2, 4] [] rfl rfl)⟩ (sb rfl) ?_
 rintro k_ E_ w478 ⟨xs32, v33, I34, i35, ⟨oc30, H, Ho31⟩, rfl, HS⟩
 rcases k_ with _ | k479
 · exact no_ H
 replace H : sMT.b3 x0 (sMT.l3 x0 k479) k479 xs32 i35 = some oc30 := H
 unfold sMT.b3 at H
 refine WC.seq fun _ hK480 => ?_
 refine sr_ fun _ hK481 => ?_
 refine mv_ ?_
 exact by (
 refine v_ (fa_ underlying33) ?_
 refine v_ (lb_ (HS.mu 1 rfl) underlying26 hc20) ?_
 refine ln_ underlying26 ?_
 refine b_ bin_lss ?_
 refine dn_ hK481 ?_
 clear hK481
 rcases eti_ H with ⟨c482, H⟩ | ⟨c482, H⟩
 · refine wn_ (dF c482) (WC.exit ?_)
   obtain rfl := os H
   exact wv_ iq X37 ⟨xs32, v33, I34, i35, Ho31, rfl, HS⟩
 refine wy_ (dT c482) (WC.skip (via_ hK480 (WC.seq fun _ hK483 => ?_)))
 clear hK480
 refine WC.block (rg_ (mv_ ?_))
 refine v_ (fa_ underlying33) ?_
 refine v_ (lb_ (HS.mu 1 rfl) underlying26 hc20) ?_
 refine mv_ ?_
 exact by (
 obtain ⟨⟨q484, q485⟩, H⟩ := if_some H
 obtain ⟨ad486, rfl⟩ := C_open (HS.getO 1 rfl) (by omega)
 refine v_ (ia_ underlying26 32 q484 q485) ?_
 refine v_ (fa_ underlying52) ?_
 refine v_ (Run.fieldAddr rfl rfl underlying29 rfl (by kernel_rfl) (XLoad.add_add _ _ _)) ?_
 obtain ⟨e487, el488, HS⟩ := HS.elO 1 rfl (by decide) o52 i35 q484 q485
 obtain ⟨A489, c490, hc491, le492, HS⟩ := HS.eO 0 rfl at52_23
 refine v_ (Run.load rfl rfl underlying25 rfl ((HS.getO 1 rfl).2 23 _ hc491)) ?_
 refine ln_ underlying25 ?_
 refine v_ (Run.convI rfl underlying3 underlying5 rfl) ?_
 refine WL.val rfl rfl (by decide) (Run.lit1 (z := (.int .u8 0)) (vs := [.int .u8 (IntKind.u8.wrap (((x0.f5.getD i35.toNat o52).f6.f1.length : Int)))]) rfl rfl rfl underlying22 (by kernel_rfl) (ble_ rfl) (ble_ rfl)) ?_
 have HS1 := HS.below (below_alloc (Below.refl _ _) (.cells #[.int .u8 (IntKind.u8.wrap (((x0.f5.getD i35.toNat o52).f6.f1.length : Int)))] 5))
 obtain ⟨q493, H⟩ := if_some H
 refine WL.appendX HS1 0 rfl rfl rfl (by decide) rfl (.int .u8 0) 1 underlying22 (by kernel_rfl) rfl (by decide) (by decide) rfl rfl [.int .u8 (IntKind.u8.wrap (((x0.f5.getD i35.toNat o52).f6.f1.length : Int)))] rfl (fun _ => ⟨_, rfl, lit_news _ _ _⟩) (oneL rfl) (by omega) ((xs32 ++ [IntKind.u8.wrap (((x0.f5.getD i35.toNat o52).f6.f1.length : Int))]).length) (by simp) (fun v494 w495 I496 hI497 HS => ?_)
 dsimp only [List.set] at HS
 replace HS := HS.deriveO (p := (rF kU (xs32 ++ [IntKind.u8.wrap (((x0.f5.getD i35.toNat o52).f6.f1.length : Int))]) I496)) (fun W_ hO_ hN_ => reps_snoc hI497 hO_.2.2.1 (K_int _))
 exact by (
 clear HS1
 refine ad_ hK483 ?_
 clear hK483
 refine rg_ (mv_ ?_)
 refine b_ bin_add64 ?_
 refine as_ ?_
 refine WL.done ?_
 exact wr_ k479 iq ⟨(xs32 ++ [IntKind.u8.wrap (((x0.f5.getD i35.toNat o52).f6.f1.length : Int))]), v494, I496, (wrap64 (i35 + 1)), ⟨_, H, Ho31⟩, rfl, (St.pk HS [0, 4, 5, 6] [] rfl rfl)⟩ )))))))
def iUN.b0 (a0 : ByteArray) (a1 : Int) (rec_ : (List Int) → Int → Option ((List Int) × Int)) (k42 : Nat) (xs18 : List Int) (i21 : Int) : Option ((List Int) × Int) := (if i21 < a1 then (if 0 ≤ (wrap64 (Int.tdiv i21 2)) ∧ (wrap64 (Int.tdiv i21 2)) < (a0.size : Int) then (if 0 ≤ (wrap64 (4 * (Int.tmod i21 2))) then (((if (Go.bits .and .i64 (shr .i64 (wrap64 (bt a0 (wrap64 (Int.tdiv i21 2)))) (wrap64 (4 * (Int.tmod i21 2)))) 15) > 7 then (some (wrap64 ((Go.bits .and .i64 (shr .i64 (wrap64 (bt a0 (wrap64 (Int.tdiv i21 2)))) (wrap64 (4 * (Int.tmod i21 2)))) 15) - 16))) else (some (Go.bits .and .i64 (shr .i64 (wrap64 (bt a0 (wrap64 (Int.tdiv i21 2)))) (wrap64 (4 * (Int.tmod i21 2)))) 15))) : Option Int).bind (fun oc65 => (if (xs18.length) < 4294967296 then (rec_ (xs18 ++ [oc65]) (wrap64 (i21 + 1))) else none))) else none) else none) else (some (xs18, i21)))
def iUN.l0 (a0 : ByteArray) (a1 : Int) : Nat → (List Int) → Int → Option ((List Int) × Int)
 | 0, _, _ => none
 | k + 1, xs18, i21 => iUN.b0 a0 a1 (iUN.l0 a0 a1 k) k xs18 i21
def iUN.g (k : Nat) (a0 : ByteArray) (a1 : Int) : Option ((List Int) × Bool) := ((impl_in.f a1 0 2400).bind fun t4 => (if t4 = true then (if (a0.size : Int) = (wrap64 (Int.tdiv (wrap64 (a1 + 1)) 2)) then ((iUN.l0 a0 a1 k ([] : List Int) 0).bind (fun oc40 => (if (Int.tmod a1 2) = 1 then (if 0 ≤ (wrap64 (Int.tdiv a1 2)) ∧ (wrap64 (Int.tdiv a1 2)) < (a0.size : Int) then (if (bt a0 (wrap64 (Int.tdiv a1 2))) > 15 then (some ([], false)) else (some (oc40.1, true))) else none) else (some (oc40.1, true))))) else (some ([], false))) else (some ([], false))))
theorem iUN.runs (k : Nat) (a0 : ByteArray) (a1 : Int) (r1 : List Int) (r2 : Bool) (w : World) (H : iUN.g k a0 a1 = some (r1, r2)) :
   Calls prog 87 #[.string a0, vi a1] w fun e w' => ∃ (A0_ : Option Addr) (c0_ : Nat), e = .returned (.tuple #[.slice A0_ r1.length c0_, .bool r2]) ∧ r1.length ≤ c0_ ∧ Foot (cF kI A0_ r1) w' (fun k_ => w.heap.size ≤ k_) ∧ Below w.heap.size w w' := by
 unfold iUN.g at H
 have HS : St (fun _ => True) w w [] [] [] := St.start foot_nil
 refine cw_ (n := 55) func87 fun R_ hR_ => ?_
 refine sr_ fun _ hK1 => ?_
 refine as_ ?_
 refine ad_ hK1 ?_
 refine WC.seq fun _ hK2 => ?_
 refine sr_ fun _ hK3 => ?_
 refine mv_ ?_
 obtain ⟨t4, ha5, H⟩ := bind_some H
 refine cs0_ HS func45 (impl_in.calls a1 0 2400 t4 _ ha5) (fun w6 HS => ?_)
 clear ha5
 refine nt_ ?_
 refine mv_ ?_
 rcases eti_ H with ⟨c7, H⟩ | ⟨c7, H⟩
 · refine off_ (c' := true) (nB (bF c7)) ?_
   refine WL.know 12 (nB (bF c7)) ?_
   refine fast_ ?_
   refine via_ hK3 (wy_ rfl ?_)
   refine sr_ fun _ hK69 => ?_
   refine as_ ?_
   refine ad_ hK69 ?_
   obtain ⟨rfl, rfl⟩ := Prod.mk.inj (os H)
   exact rt2 Try.f87 rfl rfl rfl hR_ ⟨_, _, rfl, (Nat.le_refl _), (fun W_ _ => Kd.C_nil _ _), HS.b⟩
 refine on_ (nB c7) (mv_ ?_)
 refine on_ (nB c7) (v_ (Run.lenStr rfl underlying9 rfl) ?_)
 refine on_ (nB c7) (mv_ ?_)
 refine on_ (nB c7) (b_ bin_add64 ?_)
 refine on_ (nB c7) (v_ (Run.bin rfl rfl rfl (bin_quo64 (show (2 : Int) ≠ 0 by decide))) ?_)
 refine on_ (nB c7) (b_ bin_neq ?_)
 refine v_ (Run.pickF rfl rfl (nB c7) rfl) ?_
 refine dn_ hK3 ?_
 rcases eti_ H with ⟨c8, H⟩ | ⟨c8, H⟩
 · refine wy_ (qT c8) (sr_ fun _ hK68 => ?_)
   refine as_ ?_
   refine ad_ hK68 ?_
   obtain ⟨rfl, rfl⟩ := Prod.mk.inj (os H)
   exact rt2 Try.f87 rfl rfl rfl hR_ ⟨_, _, rfl, (Nat.le_refl _), (fun W_ _ => Kd.C_nil _ _), HS.b⟩
 refine wn_ (qF c8) (WC.skip (via_ hK2 (sr_ fun _ hK9 => ?_)))
 refine WL.lit0 HS rfl rfl (by decide) rfl underlying27 (sz := 1) (by kernel_rfl) (fun v10 w11 HS => ?_)
 replace HS := HS.deriveN (p := (rF kI ([] : List Int) [])) (fun _ _ => Reps.none _ _)
 refine ad_ hK9 ?_
 refine WC.seq fun K12 hK12 => ?_
 refine sr_ fun _ hK13 => ?_
 refine mv_ ?_
 refine mv_ ?_
 refine dn_ hK13 (WC.block ?_)
 obtain ⟨G14, hG15, oc16, H, Ho17⟩ := open_G H
 let J22 := fun (xs18 : List Int) v19 I20 (i21 : Int) (E_ : Env) (W_ : World) => E_ = [(0, .string a0), (1, vi a1), (6, v19), (21, vi a1), (22, vi i21)] ∧ St (fun _ => True) w W_ [rowM w.heap.size 3 1 v19 xs18.length I20] [] [(rF kI xs18 I20)]
 have X23 : ∀ E_ W_, (∃ xs18 v19 I20 i21, G14 (xs18, i21) = some (r1, r2) ∧ J22 xs18 v19 I20 i21 E_ W_) → ∀ a, Fits a 55 E_ → K12 a W_ := by
   rintro E_ w24 ⟨xs18, v19, I20, i21, H, rfl, HS⟩
   rw [hG15] at H
   (try dsimp only at H)
   refine hK12 _ _ ?_
   refine WC.seq fun _ hK25 => ?_
   refine sr_ fun _ hK26 => ?_
   refine mv_ ?_
   refine v_ (Run.bin rfl rfl rfl (bin_rem (show (2 : Int) ≠ 0 by decide))) ?_
   refine b_ bin_eql ?_
   refine mv_ ?_
   rcases eti_ H with ⟨c27, H⟩ | ⟨c27, H⟩
   · refine off_ (c' := false) (eF c27) ?_
     refine WL.know 47 (eF c27) ?_
     refine fast_ ?_
     refine via_ hK26 (wn_ rfl ?_)
     refine WC.skip (via_ hK25 (sr_ fun _ hK36 => ?_))
     refine fast_ ?_
     refine via_ hK36 (WC.ret ?_)
     obtain ⟨A37, c38, rfl⟩ := row_slice (HS.mu 0 rfl)
     have le39 := row_le (HS.mu 0 rfl)
     replace HS := HS.freezeN 0 (p := (cF kI A37 (xs18))) rfl (fun W_ hm_ h_ => row_C (by rfl) hm_ h_.1)
     dsimp only [List.eraseIdx] at HS
     obtain ⟨rfl, rfl⟩ := Prod.mk.inj (os H)
     exact fin2 Try.f87 rfl rfl rfl hR_ ⟨_, _, rfl, le39, (foot_fresh (HS.footN 0 rfl)), HS.b⟩
   refine on_ (eT c27) (mv_ ?_)
   refine on_ (eT c27) (mv_ ?_)
   refine on_ (eT c27) (v_ (Run.bin rfl rfl rfl (bin_quo64 (show (2 : Int) ≠ 0 by decide))) ?_)
   refine on_ (eT c27) ?_
   obtain ⟨⟨q28, q29⟩, H⟩ := if_some H
   refine v_ (Run.strIndex rfl underlying9 rfl rfl q28 q29) ?_
   refine on_ (eT c27) (b_ bin_gtr ?_)
   refine v_ (Run.pickT rfl rfl (eT c27) rfl) ?_
   refine dn_ hK26 ?_
   rcases ite_ H with ⟨c30, H⟩ | ⟨c30, H⟩
   · refine wy_ (dT c30) (sr_ fun _ hK31 => ?_)
     refine as_ ?_
     refine ad_ hK31 ?_
     obtain ⟨rfl, rfl⟩ := Prod.mk.inj (os H)
     exact rt2 Try.f87 rfl rfl rfl hR_ ⟨_, _, rfl, (Nat.le_refl _), (fun W_ _ => Kd.C_nil _ _), HS.b⟩
   refine wn_ (dF c30) (WC.skip (via_ hK25 (sr_ fun _ hK32 => ?_)))
   refine fast_ ?_
   refine via_ hK32 (WC.ret ?_)
   obtain ⟨A33, c34, rfl⟩ := row_slice (HS.mu 0 rfl)
   have le35 := row_le (HS.mu 0 rfl)
   replace HS := HS.freezeN 0 (p := (cF kI A33 (xs18))) rfl (fun W_ hm_ h_ => row_C (by rfl) hm_ h_.1)
   dsimp only [List.eraseIdx] at HS
   obtain ⟨rfl, rfl⟩ := Prod.mk.inj (os H)
   exact fin2 Try.f87 rfl rfl rfl hR_ ⟨_, _, rfl, le35, (foot_fresh (HS.footN 0 rfl)), HS.b⟩
 clear hK12
 refine WC.loop (fun k_ E_ W_ => ∃ xs18 v19 I20 i21, (∃ o_, iUN.l0 a0 a1 k_ xs18 i21 = some o_ ∧ G14 o_ = some (r1, r2)) ∧ J22 xs18 v19 I20 i21 E_ W_) k ⟨([] : List Int), v10, ([]), 0, ⟨_, H, Ho17⟩, rfl, HS⟩ (sb rfl) ?_
 rintro k_ E_ w41 ⟨xs18, v19, I20, i21, ⟨oc16, H, Ho17⟩, rfl, HS⟩
 rcases k_ with _ | k42
 · exact no_ H
 replace H : iUN.b0 a0 a1 (iUN.l0 a0 a1 k42) k42 xs18 i21 = some oc16 := H
 unfold iUN.b0 at H
 refine sr_ fun _ hK43 => ?_
 refine b_ bin_lss ?_
 refine dn_ hK43 (WC.seq fun _ hK44 => ?_)
 rcases eti_ H with ⟨c45, H⟩ | ⟨c45, H⟩
 · refine wn_ (dF c45) (WC.exit ?_)
   obtain rfl := os H
   exact wv_ iq X23 ⟨xs18, v19, I20, i21, Ho17, rfl, HS⟩
 refine wy_ (dT c45) (WC.skip (via_ hK44 (WC.seq fun _ hK46 => ?_)))
 refine WC.block (sr_ fun _ hK47 => ?_)
 refine mv_ ?_
 refine ad_ hK47 ?_
 refine sr_ fun _ hK48 => ?_
 refine mv_ ?_
 refine mv_ ?_
 refine v_ (Run.bin rfl rfl rfl (bin_quo64 (show (2 : Int) ≠ 0 by decide))) ?_
 obtain ⟨⟨q49, q50⟩, H⟩ := if_some H
 refine v_ (Run.strIndex rfl underlying9 rfl rfl q49 q50) ?_
 refine v_ (Run.conv64 rfl underlying5 underlying3 rfl) ?_
 refine mv_ ?_
 refine v_ (Run.bin rfl rfl rfl (bin_rem (show (2 : Int) ≠ 0 by decide))) ?_
 refine b_ bin_mul64 ?_
 obtain ⟨q51, H⟩ := if_some H
 refine v_ (Run.shrV rfl rfl rfl q51) ?_
 refine b_ bin_and ?_
 refine ad_ hK48 ?_
 refine WC.seq fun K52 hK52 => ?_
 obtain ⟨G53, hG54, oc55, H, Ho56⟩ := open_G H
 have X58 : ∀ E_ W_, (∃ (i57 : Int), E_ = [(0, .string a0), (1, vi a1), (6, v19), (8, vi i57), (21, vi a1), (22, vi i21)] ∧ G53 i57 = some oc16 ∧ St (fun _ => True) w W_ [rowM w.heap.size 3 1 v19 xs18.length I20] [] [(rF kI xs18 I20)]) → ∀ a, Fits a 55 E_ → K52 a W_ := by
   rintro E_ w59 ⟨i57, rfl, H, HS⟩
   rw [hG54] at H
   (try dsimp only at H)
   refine hK52 _ _ ?_
   refine rg_ (mv_ ?_)
   refine mv_ ?_
   refine WL.val rfl rfl (by decide) (Run.lit1 (z := (vi 0)) (vs := [vi i57]) rfl rfl rfl underlying27 (by kernel_rfl) (ble_ rfl) (ble_ rfl)) ?_
   have HS1 := HS.below (below_alloc (Below.refl _ _) (.cells #[vi i57] 3))
   obtain ⟨q60, H⟩ := if_some H
   refine WL.append HS1 0 rfl rfl rfl (by decide) rfl (vi 0) 8 underlying27 (by kernel_rfl) rfl (by decide) (by decide) rfl rfl [vi i57] rfl (lit_news _ _ _) (oneL rfl) (by omega) ((xs18 ++ [i57]).length) (by simp) (fun v61 w62 I63 hI64 HS => ?_)
   dsimp only [List.set] at HS
   replace HS := HS.deriveN (p := (rF kI (xs18 ++ [i57]) I63)) (fun W_ hN_ => reps_snoc hI64 hN_.1 (K_int _))
   clear HS1
   refine ad_ hK46 ?_
   refine rg_ (b_ bin_add64 ?_)
   refine mv_ ?_
   refine WL.done ?_
   exact wr_ k42 iq ⟨(xs18 ++ [i57]), v61, I63, (wrap64 (i21 + 1)), ⟨_, H, Ho17⟩, rfl, (St.pk HS [] [0] rfl rfl)⟩
 clear hK52
 refine sr_ fun _ hK66 => ?_
 refine mv_ ?_
 refine b_ bin_gtr ?_
 refine dn_ hK66 ?_
 rcases eti_ H with ⟨c67, H⟩ | ⟨c67, H⟩
 · refine wn_ (dF c67) (WC.skip ?_)
   obtain rfl := os H
   exact wv_ iq X58 ⟨(Go.bits .and .i64 (shr .i64 (wrap64 (bt a0 (wrap64 (Int.tdiv i21 2)))) (wrap64 (4 * (Int.tmod i21 2)))) 15), rfl, Ho56, HS⟩
 refine wy_ (dT c67) (rg_ (mv_ ?_))
 refine b_ bin_sub64 ?_
 refine as_ ?_
 refine WL.done ?_
 obtain rfl := os H
 exact wv_ iq X58 ⟨(wrap64 ((Go.bits .and .i64 (shr .i64 (wrap64 (bt a0 (wrap64 (Int.tdiv i21 2)))) (wrap64 (4 * (Int.tmod i21 2)))) 15) - 16)), rfl, Ho56, HS⟩
def impl_Unsealed.g (k : Nat) (a0 : ByteArray) : Option (ByteArray × Bool) := ((impl_in.f (wrap64 ((a0.size : Int) - 4)) 0 12000).bind fun t6 => (if t6 = true then (if 0 ≤ (wrap64 ((a0.size : Int) - 4)) ∧ (wrap64 ((a0.size : Int) - 4)) ≤ (a0.size : Int) then (if 0 ≤ (wrap64 ((a0.size : Int) - 4)) ∧ (wrap64 ((a0.size : Int) - 4)) ≤ (a0.size : Int) then ((impl_SumOf.f k (a0.extract 0 (wrap64 ((a0.size : Int) - 4)).toNat)).bind fun t14 => ((impl_sumText.f t14).bind fun t17 => (if t17.toList = (a0.extract (wrap64 ((a0.size : Int) - 4)).toNat a0.size).toList then (if 0 ≤ (wrap64 ((a0.size : Int) - 4)) ∧ (wrap64 ((a0.size : Int) - 4)) ≤ (a0.size : Int) then (some ((a0.extract 0 (wrap64 ((a0.size : Int) - 4)).toNat), true)) else none) else (some ((⟨#[]⟩ : ByteArray), false))))) else none) else none) else (some ((⟨#[]⟩ : ByteArray), false))))
theorem impl_Unsealed.runs (k : Nat) (a0 : ByteArray) (r1 : ByteArray) (r2 : Bool) (w : World) (H : impl_Unsealed.g k a0 = some (r1, r2)) :
   Calls prog 22 #[.string a0] w fun e w' => e = .returned (.tuple #[.string r1, .bool r2]) ∧ Below w.heap.size w w' := by
 unfold impl_Unsealed.g at H
 have HS : St (fun _ => True) w w [] [] [] := St.start foot_nil
 refine cw_ (n := 25) func22 fun R_ hR_ => ?_
 refine sr_ fun _ hK1 => ?_
 refine as_ ?_
 refine ad_ hK1 ?_
 refine sr_ fun _ hK2 => ?_
 refine mv_ ?_
 refine v_ (Run.lenStr rfl underlying9 rfl) ?_
 refine b_ bin_sub64 ?_
 refine ad_ hK2 ?_
 refine WC.seq fun _ hK3 => ?_
 refine WC.seq fun _ hK4 => ?_
 refine WC.drawS HS [] rfl rfl (fun w5 HS => ?_)
 have HB := Below.refl w5.heap.size w5
 have HSW := HS
 refine dm_ 0 ?_
 obtain ⟨t6, ha7, H⟩ := bind_some H
 refine dcs0_ HS HB 1 (w_none rfl) func45 (impl_in.calls (wrap64 ((a0.size : Int) - 4)) 0 12000 t6 _ ha7) (fun w8 HS HB => ?_)
 clear ha7
 refine dp_ 2 (fun _ => Run.not rfl rfl) ?_
 refine dm_ 3 ?_
 rcases eti_ H with ⟨c9, H⟩ | ⟨c9, H⟩
 · refine doT_ 4 (nB (bF c9)) ?_
   refine doT_ 5 (nB (bF c9)) ?_
   refine doT_ 6 (nB (bF c9)) ?_
   refine doT_ 7 (nB (bF c9)) ?_
   refine doT_ 8 (nB (bF c9)) ?_
   refine doT_ 9 (nB (bF c9)) ?_
   refine doT_ 10 (nB (bF c9)) ?_
   refine doT_ 11 (nB (bF c9)) ?_
   refine doT_ 12 (nB (bF c9)) ?_
   refine dp_ 13 (fun _ => Run.pickT rfl rfl (nB (bF c9)) rfl) ?_
   refine dd_ ?_
   clear HB HSW
   refine via_ hK4 (wy_ rfl ?_)
   refine sr_ fun _ hK25 => ?_
   refine as_ ?_
   refine ad_ hK25 ?_
   obtain ⟨rfl, rfl⟩ := Prod.mk.inj (os H)
   exact rt2 Try.f22 rfl rfl rfl hR_ ⟨rfl, HS.b⟩
 refine dg_ 4 (nB c9) (fun _ => Run.move rfl rfl) ?_
 refine dg_ 5 (nB c9) (fun _ => Run.move rfl rfl) ?_
 obtain ⟨⟨q10, q11⟩, H⟩ := if_some H
 refine dg_ 6 (nB c9) (fun _ => Run.strH rfl underlying9 rfl rfl q10 q11) ?_
 refine dg_ 9 (nB c9) (fun _ => Run.move rfl rfl) ?_
 refine dg_ 10 (nB c9) (fun _ => Run.move rfl rfl) ?_
 obtain ⟨⟨q12, q13⟩, H⟩ := if_some H
 refine dg_ 11 (nB c9) (fun _ => Run.strL rfl underlying9 rfl rfl q12 q13) ?_
 obtain ⟨t14, ha15, H⟩ := bind_some H
 refine dcs0_ HS HB 7 (w_on rfl rfl rfl (nB c9)) func59 (impl_SumOf.calls k (a0.extract 0 (wrap64 ((a0.size : Int) - 4)).toNat) t14 _ ha15) (fun w16 HS HB => ?_)
 clear ha15
 obtain ⟨t17, ha18, H⟩ := bind_some H
 refine dcs_ HS HB 8 (w_on rfl rfl rfl (nB c9)) func58 (impl_sumText.calls t14 t17 _ ha18) (fun w19 HS HB => ?_)
 clear ha18
 refine dg_ 12 (nB c9) (fun _ => Run.binT rfl rfl rfl bin_neqT) ?_
 refine dp_ 13 (fun _ => Run.pickF rfl rfl (nB c9) rfl) ?_
 refine dd_ ?_
 clear HB HSW
 refine via_ hK4 ?_
 rcases eti_ H with ⟨c20, H⟩ | ⟨c20, H⟩
 · refine wy_ (qT c20) (sr_ fun _ hK24 => ?_)
   refine as_ ?_
   refine ad_ hK24 ?_
   obtain ⟨rfl, rfl⟩ := Prod.mk.inj (os H)
   exact rt2 Try.f22 rfl rfl rfl hR_ ⟨rfl, HS.b⟩
 refine wn_ (qF c20) (WC.skip (via_ hK3 (sr_ fun _ hK21 => ?_)))
 refine mv_ ?_
 refine mv_ ?_
 obtain ⟨⟨q22, q23⟩, H⟩ := if_some H
 refine v_ (Run.strH rfl underlying9 rfl rfl q22 q23) ?_
 refine as_ ?_
 refine ad_ hK21 ?_
 obtain ⟨rfl, rfl⟩ := Prod.mk.inj (os H)
 exact rt2 Try.f22 rfl rfl rfl hR_ ⟨rfl, HS.b⟩
def ipairs.g (k : Nat) (x0 : S61) : Option Int := (if x0.f1 ≠ 0 then (some (wrap64 (Int.tdiv (wrap64 (Int.tdiv x0.f0 x0.f1)) 2))) else none)
theorem ipairs.runs (k : Nat) (x0 : S61) (A0_5 : Option Addr) (c0_5 : Nat) (r : Int) (w : World) (hr0_5 : kI.C w A0_5 x0.f5.length x0.f5) (hc0_5 : x0.f5.length ≤ c0_5) (H : ipairs.g k x0 = some r) :
   Calls prog 62 #[.agg #[vi x0.f0, vi x0.f1, vi x0.f2, vi x0.f3, vi x0.f4, .slice A0_5 x0.f5.length c0_5, vi x0.f6]] w fun e w' => e = .returned (vi r) ∧ Below w.heap.size w w' := by
 unfold ipairs.g at H
 have HS : St (fun _ => True) w w [] [(cF kI A0_5 x0.f5)] [] := St.start (foot_cons (foot_C (Kd.heap_int _) hr0_5) foot_nil)
 refine cw_ (n := 9) func62 fun R_ hR_ => ?_
 refine sr_ fun _ hK1 => ?_
 refine bo_ HS (fun b2 w3 hb2 HS => ?_)
 refine ad_ hK1 ?_
 refine sr_ fun _ hK4 => ?_
 refine v_ (fa_ underlying61) ?_
 refine v_ (lb_ (HS.mu 0 rfl) underlying3 rfl) ?_
 refine v_ (fa_ underlying61) ?_
 refine v_ (lb_ (HS.mu 0 rfl) underlying3 rfl) ?_
 obtain ⟨z5, H⟩ := if_some H
 refine b_ (bin_quo64 z5) ?_
 refine v_ (Run.bin rfl rfl rfl (bin_quo64 (show (2 : Int) ≠ 0 by decide))) ?_
 refine ad_ hK4 ?_
 obtain rfl := os H
 exact rt1 Try.f62 rfl rfl hR_ ⟨rfl, HS.b⟩
def ibytes.b0 (x0 : S61) (rec_ : Int → Int → Option (Int × Int)) (k27 : Nat) (i19 : Int) (i20 : Int) : Option (Int × Int) := (if i20 < (x0.f5.length : Int) then (if 0 ≤ i20 ∧ i20 < (x0.f5.length : Int) then ((impl_matrixBytes.f x0.f0 x0.f0).bind fun t37 => ((impl_matrixBytes.f x0.f0 (x0.f5.getD i20.toNat 0)).bind fun t40 => ((impl_matrixBytes.f (x0.f5.getD i20.toNat 0) x0.f0).bind fun t43 => (rec_ (wrap64 (i19 + (wrap64 ((wrap64 ((wrap64 ((wrap64 (2 * x0.f0)) + (wrap64 (4 * t37)))) + t40)) + t43)))) (wrap64 (i20 + 1)))))) else none) else (some (i19, i20)))
def ibytes.l0 (x0 : S61) : Nat → Int → Int → Option (Int × Int)
 | 0, _, _ => none
 | k + 1, i19, i20 => ibytes.b0 x0 (ibytes.l0 x0 k) k i19 i20
def ibytes.g (k : Nat) (x0 : S61) : Option Int := ((impl_matrixBytes.f x0.f0 (wrap64 (256 + x0.f3))).bind fun t7 => ((ipairs.g k (⟨x0.f0, x0.f1, x0.f2, x0.f3, x0.f4, x0.f5, x0.f6⟩ : S61)).bind fun t10 => ((ibytes.l0 x0 k (wrap64 ((wrap64 ((wrap64 ((wrap64 ((wrap64 (x0.f6 + (wrap64 (4 * x0.f3)))) + (wrap64 ((wrap64 (256 + x0.f3)) * x0.f0)))) + x0.f0)) + t7)) + (wrap64 ((wrap64 (4 * x0.f2)) * t10)))) 0).bind (fun oc25 => (some oc25.1)))))
theorem ibytes.runs (k : Nat) (x0 : S61) (A0_5 : Option Addr) (c0_5 : Nat) (r : Int) (w : World) (hr0_5 : kI.C w A0_5 x0.f5.length x0.f5) (hc0_5 : x0.f5.length ≤ c0_5) (H : ibytes.g k x0 = some r) :
   Calls prog 24 #[.agg #[vi x0.f0, vi x0.f1, vi x0.f2, vi x0.f3, vi x0.f4, .slice A0_5 x0.f5.length c0_5, vi x0.f6]] w fun e w' => e = .returned (vi r) ∧ Below w.heap.size w w' := by
 unfold ibytes.g at H
 have HS : St (fun _ => True) w w [] [(cF kI A0_5 x0.f5)] [] := St.start (foot_cons (foot_C (Kd.heap_int _) hr0_5) foot_nil)
 refine cw_ (n := 67) func24 fun R_ hR_ => ?_
 refine sr_ fun _ hK1 => ?_
 refine bo_ HS (fun b2 w3 hb2 HS => ?_)
 refine ad_ hK1 ?_
 refine sr_ fun _ hK4 => ?_
 refine v_ (fa_ underlying61) ?_
 refine v_ (lb_ (HS.mu 0 rfl) underlying3 rfl) ?_
 refine b_ bin_add64 ?_
 refine ad_ hK4 ?_
 refine WC.seq fun _ hK5 => ?_
 refine WC.drawS HS [] rfl rfl (fun w6 HS => ?_)
 have HB := Below.refl w6.heap.size w6
 have HSW := HS
 refine df_ 0 underlying61 ?_
 refine df_ 2 underlying61 ?_
 refine dm_ 6 ?_
 refine df_ 7 underlying61 ?_
 refine df_ 11 underlying61 ?_
 refine df_ 14 underlying61 ?_
 refine dm_ 16 ?_
 refine df_ 19 underlying61 ?_
 refine bl_ 1 HS (Below.refl _ _) 0 underlying3 rfl ?_
 refine bl_ 3 HS (Below.refl _ _) 0 underlying3 rfl ?_
 refine dp_ 4 (fun _ => Run.bin rfl rfl rfl bin_mul64) ?_
 refine dp_ 5 (fun _ => Run.bin rfl rfl rfl bin_add64) ?_
 refine bl_ 8 HS (Below.refl _ _) 0 underlying3 rfl ?_
 refine dp_ 9 (fun _ => Run.bin rfl rfl rfl bin_mul64) ?_
 refine dp_ 10 (fun _ => Run.bin rfl rfl rfl bin_add64) ?_
 refine bl_ 12 HS (Below.refl _ _) 0 underlying3 rfl ?_
 refine dp_ 13 (fun _ => Run.bin rfl rfl rfl bin_add64) ?_
 refine bl_ 15 HS (Below.refl _ _) 0 underlying3 rfl ?_
 refine bl_ 20 HS (Below.refl _ _) 0 underlying3 rfl ?_
 refine dp_ 21 (fun _ => Run.bin rfl rfl rfl bin_mul64) ?_
 refine dt_ 22 (Below.refl _ _) (fun w_ hw_ => Run.loadS (cs := [vi x0.f0, vi x0.f1, vi x0.f2, vi x0.f3, vi x0.f4, .slice A0_5 x0.f5.length c0_5, vi x0.f6]) rfl rfl underlying61 rfl (by kernel_rfl) (box_part ((HS.below hw_).mu 0 rfl) part_all)) ?_
 obtain ⟨t7, ha8, H⟩ := bind_some H
 refine dcs0_ HS HB 17 (w_none rfl) func61 (impl_matrixBytes.calls x0.f0 (wrap64 (256 + x0.f3)) t7 _ ha8) (fun w9 HS HB => ?_)
 clear ha8
 refine dp_ 18 (fun _ => Run.bin rfl rfl rfl bin_add64) ?_
 obtain ⟨t10, ha11, H⟩ := bind_some H
 refine dcs_ HS HB 23 (w_none rfl) func62 (ipairs.runs k (⟨x0.f0, x0.f1, x0.f2, x0.f3, x0.f4, x0.f5, x0.f6⟩ : S61) A0_5 c0_5 t10 _ (HS.getO 0 rfl) hc0_5 ha11) (fun w12 HS HB => ?_)
 clear ha11
 refine dp_ 24 (fun _ => Run.bin rfl rfl rfl bin_mul64) ?_
 refine dp_ 25 (fun _ => Run.bin rfl rfl rfl bin_add64) ?_
 refine dp_ 26 (fun _ => Run.assign rfl rfl) ?_
 refine dd_ ?_
 clear HB HSW
 refine via_ hK5 (WC.seq fun K13 hK13 => ?_)
 refine sr_ fun _ hK14 => ?_
 refine v_ (fa_ underlying61) ?_
 refine v_ (lb_ (HS.mu 0 rfl) underlying27 rfl) ?_
 refine ln_ underlying27 ?_
 refine mv_ ?_
 refine dn_ hK14 (WC.block ?_)
 obtain ⟨G15, hG16, oc17, H, Ho18⟩ := open_G H
 let J21 := fun (i19 : Int) (i20 : Int) (E_ : Env) (W_ : World) => E_ = [(1, .pointer (some ⟨b2, 0, none⟩)), (4, vi i19), (37, .slice A0_5 x0.f5.length c0_5), (38, vi (x0.f5.length : Int)), (39, vi i20)] ∧ St (fun _ => True) w W_ [boxM b2 #[vi x0.f0, vi x0.f1, vi x0.f2, vi x0.f3, vi x0.f4, .slice A0_5 x0.f5.length c0_5, vi x0.f6] 61] [(cF kI A0_5 x0.f5)] []
 have X22 : ∀ E_ W_, (∃ i19 i20, G15 (i19, i20) = some r ∧ J21 i19 i20 E_ W_) → ∀ a, Fits a 67 E_ → K13 a W_ := by
   rintro E_ w23 ⟨i19, i20, H, rfl, HS⟩
   rw [hG16] at H
   (try dsimp only at H)
   refine hK13 _ _ ?_
   refine sr_ fun _ hK24 => ?_
   refine mv_ ?_
   refine ad_ hK24 ?_
   obtain rfl := os H
   exact rt1 Try.f24 rfl rfl hR_ ⟨rfl, HS.b⟩
 clear hK13
 refine WC.loop (fun k_ E_ W_ => ∃ i19 i20, (∃ o_, ibytes.l0 x0 k_ i19 i20 = some o_ ∧ G15 o_ = some r) ∧ J21 i19 i20 E_ W_) k ⟨(wrap64 ((wrap64 ((wrap64 ((wrap64 ((wrap64 (x0.f6 + (wrap64 (4 * x0.f3)))) + (wrap64 ((wrap64 (256 + x0.f3)) * x0.f0)))) + x0.f0)) + t7)) + (wrap64 ((wrap64 (4 * x0.f2)) * t10)))), 0, ⟨_, H, Ho18⟩, rfl, HS⟩ (sb rfl) ?_
 rintro k_ E_ w26 ⟨i19, i20, ⟨oc17, H, Ho18⟩, rfl, HS⟩
 rcases k_ with _ | k27
 · exact no_ H
 replace H : ibytes.b0 x0 (ibytes.l0 x0 k27) k27 i19 i20 = some oc17 := H
 unfold ibytes.b0 at H
 refine sr_ fun _ hK28 => ?_
 refine b_ bin_lss ?_
 refine dn_ hK28 (WC.seq fun _ hK29 => ?_)
 rcases eti_ H with ⟨c30, H⟩ | ⟨c30, H⟩
 · refine wn_ (dF c30) (WC.exit ?_)
   obtain rfl := os H
   exact wv_ iq X22 ⟨i19, i20, Ho18, rfl, HS⟩
 refine wy_ (dT c30) (WC.skip (via_ hK29 (WC.seq fun _ hK31 => ?_)))
 refine WC.block (sr_ fun _ hK32 => ?_)
 obtain ⟨⟨q33, q34⟩, H⟩ := if_some H
 obtain ⟨ad35, rfl⟩ := C_open (HS.getO 0 rfl) (by omega)
 refine v_ (ia_ underlying27 1 q33 q34) ?_
 refine v_ (Run.load rfl rfl underlying3 rfl (int_cell (HS.getO 0 rfl) i20 q33 q34)) ?_
 refine ad_ hK32 ?_
 refine WC.drawS HS [] rfl rfl (fun w36 HS => ?_)
 have HB := Below.refl w36.heap.size w36
 have HSW := HS
 refine dm_ 0 ?_
 refine df_ 1 underlying61 ?_
 refine df_ 4 underlying61 ?_
 refine df_ 6 underlying61 ?_
 refine df_ 11 underlying61 ?_
 refine dm_ 13 ?_
 refine dm_ 16 ?_
 refine df_ 17 underlying61 ?_
 refine bl_ 2 HS (Below.refl _ _) 0 underlying3 rfl ?_
 refine dp_ 3 (fun _ => Run.bin rfl rfl rfl bin_mul64) ?_
 refine bl_ 5 HS (Below.refl _ _) 0 underlying3 rfl ?_
 refine bl_ 7 HS (Below.refl _ _) 0 underlying3 rfl ?_
 refine bl_ 12 HS (Below.refl _ _) 0 underlying3 rfl ?_
 refine bl_ 18 HS (Below.refl _ _) 0 underlying3 rfl ?_
 obtain ⟨t37, ha38, H⟩ := bind_some H
 refine dcs0_ HS HB 8 (w_none rfl) func61 (impl_matrixBytes.calls x0.f0 x0.f0 t37 _ ha38) (fun w39 HS HB => ?_)
 clear ha38
 refine dp_ 9 (fun _ => Run.bin rfl rfl rfl bin_mul64) ?_
 refine dp_ 10 (fun _ => Run.bin rfl rfl rfl bin_add64) ?_
 obtain ⟨t40, ha41, H⟩ := bind_some H
 refine dcs0_ HS HB 14 (w_none rfl) func61 (impl_matrixBytes.calls x0.f0 (x0.f5.getD i20.toNat 0) t40 _ ha41) (fun w42 HS HB => ?_)
 clear ha41
 refine dp_ 15 (fun _ => Run.bin rfl rfl rfl bin_add64) ?_
 obtain ⟨t43, ha44, H⟩ := bind_some H
 refine dcs0_ HS HB 19 (w_none rfl) func61 (impl_matrixBytes.calls (x0.f5.getD i20.toNat 0) x0.f0 t43 _ ha44) (fun w45 HS HB => ?_)
 clear ha44
 refine dp_ 20 (fun _ => Run.bin rfl rfl rfl bin_add64) ?_
 refine dp_ 21 (fun _ => Run.bin rfl rfl rfl bin_add64) ?_
 refine dp_ 22 (fun _ => Run.assign rfl rfl) ?_
 refine dd_ ?_
 clear HB HSW
 refine via_ hK31 (rg_ (b_ bin_add64 ?_))
 refine mv_ ?_
 refine WL.done ?_
 exact wr_ k27 iq ⟨(wrap64 (i19 + (wrap64 ((wrap64 ((wrap64 ((wrap64 (2 * x0.f0)) + (wrap64 (4 * t37)))) + t40)) + t43)))), (wrap64 (i20 + 1)), ⟨_, H, Ho18⟩, rfl, HS⟩
end Go.Proofs.Ytbdbadkinjbpcaa.PFnFiles
