/- Functions that the statement reaches, as Lean functions, and the proof that a call of each comes to just its answer; written by this claim's own program. No conditions. -/
import Derived.Test.YtacbkcofcbglhaaGFnExactFileBytes3
namespace Go.Proofs.Ytacbkcofcbglhaa.PFnExactFileBytes
open Go.RowKit Go.Proofs.YtacbkcofcbglhaaW.PrintWords Go.Proofs.YtacbkcofcbglhaaW.PrintLast Go.Proofs.YtacbkcofcbglhaaW.PrintMore Go.Proofs.Ytacbkcofcbglhaa.XW Go.Proofs.Ytacbkcofcbglhaa.XOp Go.Proofs.Ytacbkcofcbglhaa.XSt Go.Proofs.Ytacbkcofcbglhaa.XDraw
set_option linter.unusedVariables false
set_option linter.unusedSimpArgs false
set_option maxHeartbeats 4000000
set_option maxRecDepth 20000
def spec_ModelText.b3 (x0 : S39) (rec_ : (List Int) → Int → Option ((List Int) × Int)) (k479 : Nat) (xs32 : List Int) (i35 : Int) : Option ((List Int) × Int) := (if i35 < (x0.f5.length : Int) then (if 0 ≤ i35 ∧ i35 < (x0.f5.length : Int) then (if (xs32.length) < 4294967296 then (rec_ (xs32 ++ [IntKind.u8.wrap (((x0.f5.getD i35.toNat o48).f6.f1.length : Int))]) (wrap64 (i35 + 1))) else none) else none) else (some (xs32, i35)))
def spec_ModelText.l3 (x0 : S39) : Nat → (List Int) → Int → Option ((List Int) × Int)
  | 0, _, _ => none
  | k + 1, xs32, i35 => spec_ModelText.b3 x0 (spec_ModelText.l3 x0 k) k xs32 i35
def spec_ModelText.b2 (x0 : S39) (rec_ : (List Int) → Int → Option ((List Int) × Int)) (k432 : Nat) (xs45 : List Int) (i48 : Int) : Option ((List Int) × Int) := (if i48 < (x0.f3.length : Int) then (if 0 ≤ i48 ∧ i48 < (x0.f3.length : Int) then ((spec_l11Two.g k432 ((x0.f3.getD i48.toNat o112).f0)).bind fun t443 => (if (xs45.length) + (t443.length) < 4294967296 then ((spec_l11Two.g k432 ((x0.f3.getD i48.toNat o112).f1)).bind fun t460 => (if (((xs45 ++ t443).length)) + (t460.length) < 4294967296 then (rec_ ((xs45 ++ t443) ++ t460) (wrap64 (i48 + 1))) else none)) else none)) else none) else (some (xs45, i48)))
def spec_ModelText.l2 (x0 : S39) : Nat → (List Int) → Int → Option ((List Int) × Int)
  | 0, _, _ => none
  | k + 1, xs45, i48 => spec_ModelText.b2 x0 (spec_ModelText.l2 x0 k) k xs45 i48
def spec_ModelText.b1 (x0 : S39) (rec_ : (List Int) → Int → Option ((List Int) × Int)) (k398 : Nat) (xs58 : List Int) (i61 : Int) : Option ((List Int) × Int) := (if i61 < (x0.f4.length : Int) then (if 0 ≤ i61 ∧ i61 < (x0.f4.length : Int) then ((spec_l11Bytes.g k398 (x0.f4.getD i61.toNat []) 128).bind fun t413 => (if (xs58.length) + (t413.length) < 4294967296 then (rec_ (xs58 ++ t413) (wrap64 (i61 + 1))) else none)) else none) else (some (xs58, i61)))
def spec_ModelText.l1 (x0 : S39) : Nat → (List Int) → Int → Option ((List Int) × Int)
  | 0, _, _ => none
  | k + 1, xs58, i61 => spec_ModelText.b1 x0 (spec_ModelText.l1 x0 k) k xs58 i61
def spec_ModelText.b0 (x0 : S39) (rec_ : (List Int) → Int → Option ((List Int) × Int)) (k183 : Nat) (xs71 : List Int) (i74 : Int) : Option ((List Int) × Int) := (if i74 < (x0.f5.length : Int) then (if 0 ≤ i74 ∧ i74 < (x0.f5.length : Int) then ((spec_l11Bytes.g k183 ((x0.f5.getD i74.toNat o48).f0) 0).bind fun t202 => (if (xs71.length) + (t202.length) < 4294967296 then ((spec_l11Matrix.g k183 ((x0.f5.getD i74.toNat o48).f1)).bind fun t228 => (if (((xs71 ++ t202).length)) + (t228.length) < 4294967296 then ((spec_l11Matrix.g k183 ((x0.f5.getD i74.toNat o48).f2)).bind fun t254 => (if ((((xs71 ++ t202) ++ t228).length)) + (t254.length) < 4294967296 then ((spec_l11Matrix.g k183 ((x0.f5.getD i74.toNat o48).f3)).bind fun t280 => (if (((((xs71 ++ t202) ++ t228) ++ t254).length)) + (t280.length) < 4294967296 then ((spec_l11Matrix.g k183 ((x0.f5.getD i74.toNat o48).f4)).bind fun t306 => (if ((((((xs71 ++ t202) ++ t228) ++ t254) ++ t280).length)) + (t306.length) < 4294967296 then ((spec_l11Bytes.g k183 ((x0.f5.getD i74.toNat o48).f5) 0).bind fun t328 => (if (((((((xs71 ++ t202) ++ t228) ++ t254) ++ t280) ++ t306).length)) + (t328.length) < 4294967296 then ((spec_l11Matrix.g k183 ((x0.f5.getD i74.toNat o48).f6)).bind fun t354 => (if ((((((((xs71 ++ t202) ++ t228) ++ t254) ++ t280) ++ t306) ++ t328).length)) + (t354.length) < 4294967296 then ((spec_l11Matrix.g k183 ((x0.f5.getD i74.toNat o48).f7)).bind fun t379 => (if (((((((((xs71 ++ t202) ++ t228) ++ t254) ++ t280) ++ t306) ++ t328) ++ t354).length)) + (t379.length) < 4294967296 then (rec_ ((((((((xs71 ++ t202) ++ t228) ++ t254) ++ t280) ++ t306) ++ t328) ++ t354) ++ t379) (wrap64 (i74 + 1))) else none)) else none)) else none)) else none)) else none)) else none)) else none)) else none)) else none) else (some (xs71, i74)))
def spec_ModelText.l0 (x0 : S39) : Nat → (List Int) → Int → Option ((List Int) × Int)
  | 0, _, _ => none
  | k + 1, xs71, i74 => spec_ModelText.b0 x0 (spec_ModelText.l0 x0 k) k xs71 i74
def spec_ModelText.g (k : Nat) (x0 : S39) : Option (ByteArray × Bool) := ((spec_ModelOk.g k x0).bind fun t6 => (if t6 = true then ((spec_ModelText.l3 x0 k ([84, 77, 49] ++ [IntKind.u8.wrap (x0.f0), IntKind.u8.wrap (x0.f1), IntKind.u8.wrap (x0.f2), IntKind.u8.wrap ((x0.f3.length : Int)), IntKind.u8.wrap ((x0.f5.length : Int))]) 0).bind (fun oc477 => ((spec_ModelText.l2 x0 k oc477.1 0).bind (fun oc430 => ((spec_ModelText.l1 x0 k oc430.1 0).bind (fun oc396 => ((spec_ModelText.l0 x0 k oc396.1 0).bind (fun oc181 => ((spec_l11Bytes.g k x0.f6 0).bind fun t83 => (if (oc181.1.length) + (t83.length) < 4294967296 then ((spec_l11Matrix.g k x0.f7).bind fun t109 => (if (((oc181.1 ++ t83).length)) + (t109.length) < 4294967296 then ((spec_l11Turns.g k x0.f8.f0).bind fun t136 => (if ((((oc181.1 ++ t83) ++ t109).length)) + (t136.length) < 4294967296 then ((spec_l11Turns.g k x0.f8.f1).bind fun t153 => (if (((((oc181.1 ++ t83) ++ t109) ++ t136).length)) + (t153.length) < 4294967296 then (if (wrap64 (((((((oc181.1 ++ t83) ++ t109) ++ t136) ++ t153).length) : Int) + 4)) > 12000 then (some ((⟨#[]⟩ : ByteArray), false)) else ((spec_Sealed.f k (strOfNums ((((oc181.1 ++ t83) ++ t109) ++ t136) ++ t153))).bind fun t178 => (some (t178.1, t178.2)))) else none)) else none)) else none)) else none)))))))))) else (some ((⟨#[]⟩ : ByteArray), false))))
theorem spec_ModelText.runs (k : Nat) (cs0 : List Value) (x0 : S39) (r1 : ByteArray) (r2 : Bool) (w : World) (hk0 : k39.K w x0 cs0) (H : spec_ModelText.g k x0 = some (r1, r2)) :
    Calls Try.prog 37 #[.agg cs0.toArray] w fun e w' => e = .returned (.tuple #[.string r1, .bool r2]) ∧ Below w.heap.size w w' := by
  have el0 : cs0.length = 14 := k39.K_len hk0
  unfold spec_ModelText.g at H
  have HS : St (fun _ => True) w w [] [(kF k39 x0 cs0)] [] := St.start (foot_cons (foot_K h39 hk0) foot_nil)
  refine cw_ (n := 174) Try.func37 fun R_ hR_ => ?_
  refine sr_ fun _ hK1 => ?_
  refine bo_ HS (fun b2 w3 hb2 HS => ?_)
  refine as_ ?_
  refine as_ ?_
  exact by (
  refine dn_ hK1 ?_
  clear hK1
  refine WC.seq fun _ hK4 => ?_
  refine sr_ fun _ hK5 => ?_
  refine v_ (Run.loadS (cs := cs0) rfl rfl Try.underlying39 rfl (by rw [el0]; kernel_rfl) (box_part (HS.mu 0 rfl) part_all)) ?_
  obtain ⟨t6, ha7, H⟩ := bind_some H
  refine cs_ HS Try.func24 (spec_ModelOk.runs k cs0 x0 t6 _ (HS.getO 0 rfl) ha7) (fun w8 HS => ?_)
  clear ha7
  exact by (
  refine nt_ ?_
  refine dn_ hK5 ?_
  clear hK5
  rcases eti_ H with ⟨c9, H⟩ | ⟨c9, H⟩
  · refine wy_ (nB (bF c9)) ?_
    refine sr_ fun _ hK498 => ?_
    refine as_ ?_
    refine as_ ?_
    exact by (
    refine dn_ hK498 ?_
    clear hK498
    obtain ⟨rfl, rfl⟩ := Prod.mk.inj (os H)
    exact rt2 Try.f37 rfl rfl rfl hR_ ⟨rfl, HS.b⟩ )
  refine wn_ (nB c9) ?_
  refine WC.skip ?_
  refine via_ hK4 ?_
  clear hK4
  exact by (
  refine sr_ fun _ hK10 => ?_
  refine WL.litN HS (sz := 1) (z := (.int .u8 0)) rfl rfl (by decide) rfl [[.int .u8 84], [.int .u8 77], [.int .u8 49]] ⟨⟨rfl, _, rfl, rfl, rfl⟩, ⟨⟨rfl, _, rfl, rfl, rfl⟩, ⟨⟨rfl, _, rfl, rfl, rfl⟩, trivial⟩⟩⟩ rfl Try.underlying53 (by kernel_rfl) (by decide) (by decide) (fun v11 w12 HS => ?_)
  replace HS := HS.deriveO (p := (rF kU [84, 77, 49] (List.flatten [[.int .u8 84], [.int .u8 77], [.int .u8 49]]))) (fun W_ hO_ hN_ => reps_lit ⟨(K_int _), ⟨(K_int _), ⟨(K_int _), trivial⟩⟩⟩)
  refine WL.mark HS 0 rfl rfl rfl (by decide) rfl Try.underlying53 Try.underlying5 rfl (by decide) (fun w13 HS => ?_)
  dsimp only [List.set] at HS
  refine v_ (fa_ Try.underlying39) ?_
  refine v_ (lb_ (HS.mu 1 rfl) Try.underlying3 (at39_0 (HS.aO 1 rfl)).int) ?_
  refine v_ (Run.convI rfl Try.underlying3 Try.underlying5 rfl) ?_
  exact by (
  refine v_ (fa_ Try.underlying39) ?_
  refine v_ (lb_ (HS.mu 1 rfl) Try.underlying3 (at39_1 (HS.aO 1 rfl)).int) ?_
  refine v_ (Run.convI rfl Try.underlying3 Try.underlying5 rfl) ?_
  refine v_ (fa_ Try.underlying39) ?_
  refine v_ (lb_ (HS.mu 1 rfl) Try.underlying3 (at39_2 (HS.aO 1 rfl)).int) ?_
  refine v_ (Run.convI rfl Try.underlying3 Try.underlying5 rfl) ?_
  refine v_ (fa_ Try.underlying39) ?_
  obtain ⟨A14, c15, hc16, le17, HS⟩ := HS.sO 1 rfl at39_3
  exact by (
  refine v_ (lb_ (HS.mu 1 rfl) Try.underlying34 hc16) ?_
  refine ln_ Try.underlying34 ?_
  refine v_ (Run.convI rfl Try.underlying3 Try.underlying5 rfl) ?_
  refine v_ (fa_ Try.underlying39) ?_
  obtain ⟨A18, c19, hc20, le21, HS⟩ := HS.sO 2 rfl at39_5
  refine v_ (lb_ (HS.mu 1 rfl) Try.underlying35 hc20) ?_
  refine ln_ Try.underlying35 ?_
  refine v_ (Run.convI rfl Try.underlying3 Try.underlying5 rfl) ?_
  exact by (
  refine WL.val rfl rfl (by decide) (Run.litN (sz := 1) (z := (.int .u8 0)) (L := [[.int .u8 (IntKind.u8.wrap (x0.f0))], [.int .u8 (IntKind.u8.wrap (x0.f1))], [.int .u8 (IntKind.u8.wrap (x0.f2))], [.int .u8 (IntKind.u8.wrap ((x0.f3.length : Int)))], [.int .u8 (IntKind.u8.wrap ((x0.f5.length : Int)))]]) rfl ⟨⟨rfl, _, rfl, rfl, rfl⟩, ⟨⟨rfl, _, rfl, rfl, rfl⟩, ⟨⟨rfl, _, rfl, rfl, rfl⟩, ⟨⟨rfl, _, rfl, rfl, rfl⟩, ⟨⟨rfl, _, rfl, rfl, rfl⟩, trivial⟩⟩⟩⟩⟩ rfl Try.underlying53 (by kernel_rfl) (by decide) (by decide)) ?_
  have HS1 := HS.below (below_alloc (Below.refl _ _) (.cells (List.toArray [.int .u8 (IntKind.u8.wrap (x0.f0)), .int .u8 (IntKind.u8.wrap (x0.f1)), .int .u8 (IntKind.u8.wrap (x0.f2)), .int .u8 (IntKind.u8.wrap ((x0.f3.length : Int))), .int .u8 (IntKind.u8.wrap ((x0.f5.length : Int)))]) 5))
  refine WL.appendX HS1 0 rfl rfl rfl (by decide) rfl (.int .u8 0) 1 Try.underlying53 (by kernel_rfl) rfl (by decide) (by decide) rfl rfl [.int .u8 (IntKind.u8.wrap (x0.f0)), .int .u8 (IntKind.u8.wrap (x0.f1)), .int .u8 (IntKind.u8.wrap (x0.f2)), .int .u8 (IntKind.u8.wrap ((x0.f3.length : Int))), .int .u8 (IntKind.u8.wrap ((x0.f5.length : Int)))] rfl (fun _ => ⟨_, rfl, lit_news _ _ _⟩) (oneL rfl) (by decide) (([84, 77, 49] ++ [IntKind.u8.wrap (x0.f0), IntKind.u8.wrap (x0.f1), IntKind.u8.wrap (x0.f2), IntKind.u8.wrap ((x0.f3.length : Int)), IntKind.u8.wrap ((x0.f5.length : Int))]).length) (by simp <;> omega) (fun v22 w23 I24 hI25 HS => ?_)
  dsimp only [List.set] at HS
  replace HS := HS.deriveO (p := (rF kU ([84, 77, 49] ++ [IntKind.u8.wrap (x0.f0), IntKind.u8.wrap (x0.f1), IntKind.u8.wrap (x0.f2), IntKind.u8.wrap ((x0.f3.length : Int)), IntKind.u8.wrap ((x0.f5.length : Int))]) I24)) (fun W_ hO_ hN_ => reps_more (J := List.flatten [[.int .u8 (IntKind.u8.wrap (x0.f0))], [.int .u8 (IntKind.u8.wrap (x0.f1))], [.int .u8 (IntKind.u8.wrap (x0.f2))], [.int .u8 (IntKind.u8.wrap ((x0.f3.length : Int)))], [.int .u8 (IntKind.u8.wrap ((x0.f5.length : Int)))]]) hI25 hO_.2.2.1 (reps_lit ⟨(K_int _), ⟨(K_int _), ⟨(K_int _), ⟨(K_int _), ⟨(K_int _), trivial⟩⟩⟩⟩⟩))
  clear HS1
  refine as_ ?_
  refine dn_ hK10 ?_
  exact by (
  clear hK10
  refine WC.seq fun K26 hK26 => ?_
  refine sr_ fun _ hK27 => ?_
  refine as_ ?_
  refine dn_ hK27 ?_
  clear hK27
  refine WC.block ?_
  obtain ⟨G28, hG29, oc30, H, Ho31⟩ := open_G H
  exact by (
  let J36 := fun (xs32 : List Int) (v33 : Value) (I34 : List Value) (i35 : Int) (E_ : Env) (W_ : World) => E_ = [(1, .pointer (some ⟨b2, 0, none⟩)), (4, v33), (5, .int .i64 i35)] ∧ St (fun _ => True) w W_ [rowX w.heap.size 5 1 v33 xs32.length I34, boxM b2 cs0.toArray 39] [(rF kU xs32 I34), (cF k48 A18 x0.f5), (cF k112 A14 x0.f3), (kF k39 x0 cs0)] []
  have X37 : ∀ E_ W_, (∃ xs32 v33 I34 i35, G28 (xs32, i35) = some (r1, r2) ∧ J36 xs32 v33 I34 i35 E_ W_) → ∀ a, Fits a 174 E_ → K26 a W_ := by
    rintro E_ w38 ⟨xs32, v33, I34, i35, H, rfl, HS⟩
    rw [hG29] at H
    (try dsimp only at H)
    refine hK26 _ _ ?_
    clear hK26
    refine WC.seq fun K39 hK39 => ?_
    exact by (
    refine sr_ fun _ hK40 => ?_
    refine as_ ?_
    refine dn_ hK40 ?_
    clear hK40
    refine WC.block ?_
    obtain ⟨G41, hG42, oc43, H, Ho44⟩ := open_G H
    let J49 := fun (xs45 : List Int) (v46 : Value) (I47 : List Value) (i48 : Int) (E_ : Env) (W_ : World) => E_ = [(1, .pointer (some ⟨b2, 0, none⟩)), (4, v46), (6, .int .i64 i48)] ∧ St (fun _ => True) w W_ [rowX w.heap.size 5 1 v46 xs45.length I47, boxM b2 cs0.toArray 39] [(rF kU xs45 I47), (cF k48 A18 x0.f5), (cF k112 A14 x0.f3), (kF k39 x0 cs0)] []
    have X50 : ∀ E_ W_, (∃ xs45 v46 I47 i48, G41 (xs45, i48) = some (r1, r2) ∧ J49 xs45 v46 I47 i48 E_ W_) → ∀ a, Fits a 174 E_ → K39 a W_ := by
      exact by (
      rintro E_ w51 ⟨xs45, v46, I47, i48, H, rfl, HS⟩
      rw [hG42] at H
      (try dsimp only at H)
      refine hK39 _ _ ?_
      clear hK39
      refine WC.seq fun K52 hK52 => ?_
      refine sr_ fun _ hK53 => ?_
      refine as_ ?_
      exact by (
      refine dn_ hK53 ?_
      clear hK53
      refine WC.block ?_
      obtain ⟨G54, hG55, oc56, H, Ho57⟩ := open_G H
      let J62 := fun (xs58 : List Int) (v59 : Value) (I60 : List Value) (i61 : Int) (E_ : Env) (W_ : World) => E_ = [(1, .pointer (some ⟨b2, 0, none⟩)), (4, v59), (7, .int .i64 i61)] ∧ St (fun _ => True) w W_ [rowX w.heap.size 5 1 v59 xs58.length I60, boxM b2 cs0.toArray 39] [(rF kU xs58 I60), (cF k48 A18 x0.f5), (cF k112 A14 x0.f3), (kF k39 x0 cs0)] []
      have X63 : ∀ E_ W_, (∃ xs58 v59 I60 i61, G54 (xs58, i61) = some (r1, r2) ∧ J62 xs58 v59 I60 i61 E_ W_) → ∀ a, Fits a 174 E_ → K52 a W_ := by
        rintro E_ w64 ⟨xs58, v59, I60, i61, H, rfl, HS⟩
        rw [hG55] at H
        exact by (
        (try dsimp only at H)
        refine hK52 _ _ ?_
        clear hK52
        refine WC.seq fun K65 hK65 => ?_
        refine sr_ fun _ hK66 => ?_
        refine as_ ?_
        refine dn_ hK66 ?_
        clear hK66
        exact by (
        refine WC.block ?_
        obtain ⟨G67, hG68, oc69, H, Ho70⟩ := open_G H
        let J75 := fun (xs71 : List Int) (v72 : Value) (I73 : List Value) (i74 : Int) (E_ : Env) (W_ : World) => E_ = [(1, .pointer (some ⟨b2, 0, none⟩)), (4, v72), (8, .int .i64 i74)] ∧ St (fun _ => True) w W_ [rowX w.heap.size 5 1 v72 xs71.length I73, boxM b2 cs0.toArray 39] [(rF kU xs71 I73), (cF k48 A18 x0.f5), (cF k112 A14 x0.f3), (kF k39 x0 cs0)] []
        have X76 : ∀ E_ W_, (∃ xs71 v72 I73 i74, G67 (xs71, i74) = some (r1, r2) ∧ J75 xs71 v72 I73 i74 E_ W_) → ∀ a, Fits a 174 E_ → K65 a W_ := by
          rintro E_ w77 ⟨xs71, v72, I73, i74, H, rfl, HS⟩
          rw [hG68] at H
          (try dsimp only at H)
          refine hK65 _ _ ?_
          exact by (
          clear hK65
          refine sr_ fun _ hK78 => ?_
          refine mv_ ?_
          refine v_ (fa_ Try.underlying39) ?_
          obtain ⟨A79, c80, hc81, le82, HS⟩ := HS.sO 3 rfl at39_6
          refine v_ (lb_ (HS.mu 1 rfl) Try.underlying25 hc81) ?_
          obtain ⟨t83, ha84, H⟩ := bind_some H
          refine c_ Try.func97 (spec_l11Bytes.runs k A79 c80 x0.f6 0 t83 _ (HS.getO 0 rfl) le82 ha84) ?_
          exact by (
          clear ha84
          rintro _ w85 ⟨A86, c87, rfl, le88, hf89, hb⟩
          replace HS := HS.newNs hb (foot_cons hf89 foot_nil)
          refine ⟨_, rfl, ?_⟩
          clear hb
          obtain ⟨q90, H⟩ := if_some H
          obtain ⟨L91, hl92, h93, hF94, hc95⟩ := foot_all (HS.footN 0 rfl) (by decide) rfl
          replace HS := HS.addN (p := (rF kU t83 L91)) hF94
          exact by (
          refine WL.appendX HS 0 rfl rfl rfl (by decide) rfl (.int .u8 0) 1 Try.underlying53 (by kernel_rfl) rfl (by decide) (by decide) rfl rfl L91 hl92 hc95 h93 (by omega) ((xs71 ++ t83).length) (by simp <;> omega) (fun v96 w97 I98 hI99 HS => ?_)
          dsimp only [List.set] at HS
          replace HS := HS.deriveO (p := (rF kU (xs71 ++ t83) I98)) (fun W_ hO_ hN_ => reps_more hI99 hO_.2.1 hN_.1)
          refine as_ ?_
          refine dn_ hK78 ?_
          clear hK78
          refine sr_ fun _ hK100 => ?_
          refine mv_ ?_
          exact by (
          refine v_ (fa_ Try.underlying39) ?_
          obtain ⟨A101, c102, hc103, le104, HS⟩ := HS.sO 5 rfl at39_8
          obtain ⟨A105, c106, hc107, le108, HS⟩ := HS.sO 6 rfl at39_9
          refine v_ (ls_ (HS.mu 1 rfl) Try.underlying36 (part_cons (at39_7 (HS.aO 7 rfl)).int (part_cons hc103 (part_cons hc107 (part_cons (at39_10 (HS.aO 7 rfl)).int (part_cons (at39_11 (HS.aO 7 rfl)).int part_nil)))))) ?_
          obtain ⟨t109, ha110, H⟩ := bind_some H
          refine c_ Try.func98 (spec_l11Matrix.runs k x0.f7 A101 c102 A105 c106 t109 _ (HS.getO 1 rfl) le104 (HS.getO 0 rfl) le108 ha110) ?_
          clear ha110
          rintro _ w111 ⟨A112, c113, rfl, le114, hf115, hb⟩
          exact by (
          replace HS := HS.newNs hb (foot_cons hf115 foot_nil)
          refine ⟨_, rfl, ?_⟩
          clear hb
          obtain ⟨q116, H⟩ := if_some H
          obtain ⟨L117, hl118, h119, hF120, hc121⟩ := foot_all (HS.footN 0 rfl) (by decide) rfl
          replace HS := HS.addN (p := (rF kU t109 L117)) hF120
          refine WL.appendX HS 0 rfl rfl rfl (by decide) rfl (.int .u8 0) 1 Try.underlying53 (by kernel_rfl) rfl (by decide) (by decide) rfl rfl L117 hl118 hc121 h119 (by omega) (((xs71 ++ t83) ++ t109).length) (by simp <;> omega) (fun v122 w123 I124 hI125 HS => ?_)
          dsimp only [List.set] at HS
          exact by (
          replace HS := HS.deriveO (p := (rF kU ((xs71 ++ t83) ++ t109) I124)) (fun W_ hO_ hN_ => reps_more hI125 hO_.2.2.1 hN_.1)
          refine as_ ?_
          refine dn_ hK100 ?_
          clear hK100
          refine WC.seq fun _ hK126 => ?_
          refine WC.drawW HS [boxM b2 cs0.toArray 39] (fun _ HS => ⟨(HS.mu 1 rfl), trivial⟩) [] rfl rfl (fun w127 HS => ?_)
          refine dm_ 0 ?_
          refine df_ 1 Try.underlying39 ?_
          exact by (
          refine df_ 2 Try.underlying37 ?_
          refine df_ 6 Try.underlying39 ?_
          refine df_ 7 Try.underlying37 ?_
          obtain ⟨A128, c129, hc130, le131, HS⟩ := HS.sO 8 rfl at39_12
          refine dt_ 3 ⟨HS.nowO.2, HS.nowN, ⟨(HS.mu 1 rfl), trivial⟩⟩ (fun w_ hw_ => Run.load rfl rfl Try.underlying23 rfl (box_cell hw_.2.2.1 hc130)) ?_
          obtain ⟨A132, c133, hc134, le135, HS⟩ := HS.sO 9 rfl at39_13
          refine dt_ 8 ⟨HS.nowO.2.2, HS.nowN, ⟨(HS.mu 1 rfl), trivial⟩⟩ (fun w_ hw_ => Run.load rfl rfl Try.underlying23 rfl (box_cell hw_.2.2.1 hc134)) ?_
          obtain ⟨t136, ha137, H⟩ := bind_some H
          exact by (
          refine dc_ 4 (w_none rfl) Try.func99 (spec_l11Turns.runs k A128 c129 x0.f8.f0 t136 _ (HS.getO 1 rfl) le131 ha137) ?_
          clear ha137
          rintro _ w138 ⟨A139, c140, rfl, le141, hf142, hb⟩
          replace HS := HS.newNs hb (foot_cons hf142 foot_nil)
          refine ⟨⟨HS.nowO.2.2, HS.nowN.2, ⟨(HS.mu 1 rfl), trivial⟩⟩, _, rfl, ?_⟩
          clear hb
          obtain ⟨q143, H⟩ := if_some H
          obtain ⟨L144, hl145, h146, hF147, hc148⟩ := foot_all (HS.footN 0 rfl) (by decide) rfl
          exact by (
          replace HS := HS.addN (p := (rF kU t136 L144)) hF147
          refine WD.appendX 5 (w_none rfl) HS 0 rfl rfl (.int .u8 0) 1 Try.underlying53 (by kernel_rfl) rfl (by decide) (by decide) rfl rfl L144 hl145 hc148 h146 (by omega) ((((xs71 ++ t83) ++ t109) ++ t136).length) (by simp <;> omega) (fun v149 w150 I151 hI152 HS => ?_)
          dsimp only [List.set] at HS
          replace HS := HS.deriveO (p := (rF kU (((xs71 ++ t83) ++ t109) ++ t136) I151)) (fun W_ hO_ hN_ => reps_more hI152 hO_.2.2.1 hN_.1)
          refine ⟨⟨HS.nowO.2.2.2, HS.nowN.2.2, ⟨(HS.mu 1 rfl), trivial⟩⟩, ?_⟩
          obtain ⟨t153, ha154, H⟩ := bind_some H
          refine dc_ 9 (w_none rfl) Try.func99 (spec_l11Turns.runs k A132 c133 x0.f8.f1 t153 _ (HS.getO 1 rfl) le135 ha154) ?_
          clear ha154
          exact by (
          rintro _ w155 ⟨A156, c157, rfl, le158, hf159, hb⟩
          replace HS := HS.newNs hb (foot_cons hf159 foot_nil)
          refine ⟨⟨HS.nowO.2.2.2, HS.nowN.2.2.2, ⟨(HS.mu 1 rfl), trivial⟩⟩, _, rfl, ?_⟩
          clear hb
          obtain ⟨q160, H⟩ := if_some H
          obtain ⟨L161, hl162, h163, hF164, hc165⟩ := foot_all (HS.footN 0 rfl) (by decide) rfl
          replace HS := HS.addN (p := (rF kU t153 L161)) hF164
          refine WD.appendX 10 (w_none rfl) HS 0 rfl rfl (.int .u8 0) 1 Try.underlying53 (by kernel_rfl) rfl (by decide) (by decide) rfl rfl L161 hl162 hc165 h163 (by omega) (((((xs71 ++ t83) ++ t109) ++ t136) ++ t153).length) (by simp <;> omega) (fun v166 w167 I168 hI169 HS => ?_)
          exact by (
          dsimp only [List.set] at HS
          replace HS := HS.deriveO (p := (rF kU ((((xs71 ++ t83) ++ t109) ++ t136) ++ t153) I168)) (fun W_ hO_ hN_ => reps_more hI169 hO_.1 hN_.1)
          refine ⟨⟨HS.nowO.2.2.2.2, HS.nowN.2.2.2.2, ⟨(HS.mu 1 rfl), trivial⟩⟩, ?_⟩
          refine dp_ 11 (fun _ => Run.assign rfl rfl) ?_
          refine dd_ ?_
          refine via_ hK126 ?_
          clear hK126
          refine WC.seq fun _ hK170 => ?_
          exact by (
          refine sr_ fun _ hK171 => ?_
          refine mv_ ?_
          obtain ⟨A172, c173, rfl⟩ := rowX_slice (HS.mu 0 rfl)
          refine ln_ Try.underlying53 ?_
          refine b_ bin_add64 ?_
          refine b_ bin_gtr ?_
          refine dn_ hK171 ?_
          clear hK171
          exact by (
          rcases ite_ H with ⟨c174, H⟩ | ⟨c174, H⟩
          · refine wy_ (dT c174) ?_
            refine sr_ fun _ hK175 => ?_
            refine as_ ?_
            refine as_ ?_
            refine dn_ hK175 ?_
            clear hK175
            obtain ⟨rfl, rfl⟩ := Prod.mk.inj (os H)
            exact rt2 Try.f37 rfl rfl rfl hR_ ⟨rfl, HS.b⟩
          exact by (
          refine wn_ (dF c174) ?_
          refine WC.skip ?_
          refine via_ hK170 ?_
          clear hK170
          refine sr_ fun _ hK176 => ?_
          refine mv_ ?_
          have le177 := rowX_le (HS.mu 0 rfl)
          replace HS := HS.freezeO 0 (p := (cF kU A172 (((((xs71 ++ t83) ++ t109) ++ t136) ++ t153)))) rfl (fun W_ hm_ h_ => rowX_C (by rfl) hm_ h_.1)
          exact by (
          dsimp only [List.eraseIdx] at HS
          refine v_ (Run.str (xs := ((((xs71 ++ t83) ++ t109) ++ t136) ++ t153)) rfl Try.underlying53 Try.underlying5 Try.underlying9 rfl (HS.getO 0 rfl)) ?_
          obtain ⟨t178, ha179, H⟩ := bind_some H
          refine cs_ HS Try.func100 (spec_Sealed.calls k (strOfNums ((((xs71 ++ t83) ++ t109) ++ t136) ++ t153)) t178.1 t178.2 _ ha179) (fun w180 HS => ?_)
          clear ha179
          refine v_ (Run.extract rfl rfl rfl) ?_
          refine v_ (Run.extract rfl rfl rfl) ?_
          refine as_ ?_
          exact by (
          refine as_ ?_
          refine dn_ hK176 ?_
          clear hK176
          obtain ⟨rfl, rfl⟩ := Prod.mk.inj (os H)
          exact rt2 Try.f37 rfl rfl rfl hR_ ⟨rfl, HS.b⟩ ))))))))))))))))
        clear hK65
        refine WC.loop (fun k_ E_ W_ => ∃ xs71 v72 I73 i74, (∃ o_, spec_ModelText.l0 x0 k_ xs71 i74 = some o_ ∧ G67 o_ = some (r1, r2)) ∧ J75 xs71 v72 I73 i74 E_ W_) k ⟨xs58, v59, I60, 0, ⟨_, H, Ho70⟩, rfl, HS⟩ (sb rfl) ?_
        rintro k_ E_ w182 ⟨xs71, v72, I73, i74, ⟨oc69, H, Ho70⟩, rfl, HS⟩
        exact by (
        rcases k_ with _ | k183
        · exact no_ H
        replace H : spec_ModelText.b0 x0 (spec_ModelText.l0 x0 k183) k183 xs71 i74 = some oc69 := H
        unfold spec_ModelText.b0 at H
        refine WC.seq fun _ hK184 => ?_
        refine sr_ fun _ hK185 => ?_
        refine mv_ ?_
        refine v_ (fa_ Try.underlying39) ?_
        exact by (
        refine v_ (lb_ (HS.mu 1 rfl) Try.underlying35 hc20) ?_
        refine ln_ Try.underlying35 ?_
        refine b_ bin_lss ?_
        refine dn_ hK185 ?_
        clear hK185
        rcases eti_ H with ⟨c186, H⟩ | ⟨c186, H⟩
        · refine wn_ (dF c186) ?_
          refine WC.exit ?_
          obtain rfl := os H
          exact WQ.via2 (fun _ _ h_ => h_) X76 ⟨xs71, v72, I73, i74, Ho70, rfl, HS⟩ (sb rfl)
        exact by (
        refine wy_ (dT c186) ?_
        refine WC.skip ?_
        refine via_ hK184 ?_
        clear hK184
        refine WC.seq fun _ hK187 => ?_
        refine WC.block ?_
        refine sr_ fun _ hK188 => ?_
        refine v_ (fa_ Try.underlying39) ?_
        exact by (
        refine v_ (lb_ (HS.mu 1 rfl) Try.underlying35 hc20) ?_
        refine mv_ ?_
        obtain ⟨⟨q189, q190⟩, H⟩ := if_some H
        obtain ⟨ad191, rfl⟩ := C_open (HS.getO 1 rfl) (by omega)
        refine v_ (ia_ Try.underlying35 32 q189 q190) ?_
        obtain ⟨e192, el193, HS⟩ := HS.elO 1 rfl (by decide) o48 i74 q189 q190
        replace HS := HS.deriveO (p := (kF k48 (x0.f5.getD i74.toNat o48) e192)) (fun W_ hO_ hN_ => hO_.1.1)
        refine v_ (Run.loadS (cs := e192) rfl rfl Try.underlying48 rfl (by rw [el193]; kernel_rfl) (HS.getO 1 rfl).2) ?_
        exact by (
        refine WL.alloc HS (v := .agg #[.slice none 0 0, .int .i64 0, .slice none 0 0, .slice none 0 0, .int .i64 0, .int .i64 0, .int .i64 0, .slice none 0 0, .slice none 0 0, .int .i64 0, .int .i64 0, .int .i64 0, .slice none 0 0, .slice none 0 0, .int .i64 0, .int .i64 0, .int .i64 0, .slice none 0 0, .slice none 0 0, .int .i64 0, .int .i64 0, .slice none 0 0, .int .i64 0, .slice none 0 0, .slice none 0 0, .int .i64 0, .int .i64 0, .int .i64 0, .slice none 0 0, .slice none 0 0, .int .i64 0, .int .i64 0]) (cs := #[.slice none 0 0, .int .i64 0, .slice none 0 0, .slice none 0 0, .int .i64 0, .int .i64 0, .int .i64 0, .slice none 0 0, .slice none 0 0, .int .i64 0, .int .i64 0, .int .i64 0, .slice none 0 0, .slice none 0 0, .int .i64 0, .int .i64 0, .int .i64 0, .slice none 0 0, .slice none 0 0, .int .i64 0, .int .i64 0, .slice none 0 0, .int .i64 0, .slice none 0 0, .slice none 0 0, .int .i64 0, .int .i64 0, .int .i64 0, .slice none 0 0, .slice none 0 0, .int .i64 0, .int .i64 0]) rfl rfl (by decide) rfl (by kernel_rfl) rfl (fun b194 w195 hb194 HS => ?_)
        refine WL.storeS HS 0 rfl rfl rfl rfl rfl rfl (Kd.K_one _ (HS.getO 0 rfl)) (by rw [el193]; kernel_rfl) (by rw [el193]; decide) (splice_all (by rw [el193]; rfl)) (fun w196 HS => ?_)
        dsimp only [List.set] at HS
        refine dn_ hK188 ?_
        clear hK188
        refine sr_ fun _ hK197 => ?_
        refine mv_ ?_
        refine v_ (fa_ Try.underlying48) ?_
        exact by (
        obtain ⟨A198, c199, hc200, le201, HS⟩ := HS.sO 0 rfl at48_0
        refine v_ (lb_ (HS.mu 0 rfl) Try.underlying25 hc200) ?_
        obtain ⟨t202, ha203, H⟩ := bind_some H
        refine c_ Try.func97 (spec_l11Bytes.runs k183 A198 c199 ((x0.f5.getD i74.toNat o48).f0) 0 t202 _ (HS.getO 0 rfl) le201 ha203) ?_
        clear ha203
        rintro _ w204 ⟨A205, c206, rfl, le207, hf208, hb⟩
        replace HS := HS.newNs hb (foot_cons hf208 foot_nil)
        refine ⟨_, rfl, ?_⟩
        exact by (
        clear hb
        obtain ⟨q209, H⟩ := if_some H
        obtain ⟨L210, hl211, h212, hF213, hc214⟩ := foot_all (HS.footN 0 rfl) (by decide) rfl
        replace HS := HS.addN (p := (rF kU t202 L210)) hF213
        refine WL.appendX HS 1 rfl rfl rfl (by decide) rfl (.int .u8 0) 1 Try.underlying53 (by kernel_rfl) rfl (by decide) (by decide) rfl rfl L210 hl211 hc214 h212 (by omega) ((xs71 ++ t202).length) (by simp <;> omega) (fun v215 w216 I217 hI218 HS => ?_)
        dsimp only [List.set] at HS
        replace HS := HS.deriveO (p := (rF kU (xs71 ++ t202) I217)) (fun W_ hO_ hN_ => reps_more hI218 hO_.2.2.2.1 hN_.1)
        refine as_ ?_
        exact by (
        refine dn_ hK197 ?_
        clear hK197
        refine sr_ fun _ hK219 => ?_
        refine mv_ ?_
        refine v_ (fa_ Try.underlying48) ?_
        obtain ⟨A220, c221, hc222, le223, HS⟩ := HS.sO 2 rfl at48_2
        obtain ⟨A224, c225, hc226, le227, HS⟩ := HS.sO 3 rfl at48_3
        refine v_ (ls_ (HS.mu 0 rfl) Try.underlying36 (part_cons (at48_1 (HS.aO 4 rfl)).int (part_cons hc222 (part_cons hc226 (part_cons (at48_4 (HS.aO 4 rfl)).int (part_cons (at48_5 (HS.aO 4 rfl)).int part_nil)))))) ?_
        exact by (
        obtain ⟨t228, ha229, H⟩ := bind_some H
        refine c_ Try.func98 (spec_l11Matrix.runs k183 ((x0.f5.getD i74.toNat o48).f1) A220 c221 A224 c225 t228 _ (HS.getO 1 rfl) le223 (HS.getO 0 rfl) le227 ha229) ?_
        clear ha229
        rintro _ w230 ⟨A231, c232, rfl, le233, hf234, hb⟩
        replace HS := HS.newNs hb (foot_cons hf234 foot_nil)
        refine ⟨_, rfl, ?_⟩
        clear hb
        obtain ⟨q235, H⟩ := if_some H
        exact by (
        obtain ⟨L236, hl237, h238, hF239, hc240⟩ := foot_all (HS.footN 0 rfl) (by decide) rfl
        replace HS := HS.addN (p := (rF kU t228 L236)) hF239
        refine WL.appendX HS 1 rfl rfl rfl (by decide) rfl (.int .u8 0) 1 Try.underlying53 (by kernel_rfl) rfl (by decide) (by decide) rfl rfl L236 hl237 hc240 h238 (by omega) (((xs71 ++ t202) ++ t228).length) (by simp <;> omega) (fun v241 w242 I243 hI244 HS => ?_)
        dsimp only [List.set] at HS
        replace HS := HS.deriveO (p := (rF kU ((xs71 ++ t202) ++ t228) I243)) (fun W_ hO_ hN_ => reps_more hI244 hO_.2.2.1 hN_.1)
        refine as_ ?_
        refine dn_ hK219 ?_
        clear hK219
        exact by (
        refine sr_ fun _ hK245 => ?_
        refine mv_ ?_
        refine v_ (fa_ Try.underlying48) ?_
        obtain ⟨A246, c247, hc248, le249, HS⟩ := HS.sO 5 rfl at48_7
        obtain ⟨A250, c251, hc252, le253, HS⟩ := HS.sO 6 rfl at48_8
        refine v_ (ls_ (HS.mu 0 rfl) Try.underlying36 (part_cons (at48_6 (HS.aO 7 rfl)).int (part_cons hc248 (part_cons hc252 (part_cons (at48_9 (HS.aO 7 rfl)).int (part_cons (at48_10 (HS.aO 7 rfl)).int part_nil)))))) ?_
        obtain ⟨t254, ha255, H⟩ := bind_some H
        refine c_ Try.func98 (spec_l11Matrix.runs k183 ((x0.f5.getD i74.toNat o48).f2) A246 c247 A250 c251 t254 _ (HS.getO 1 rfl) le249 (HS.getO 0 rfl) le253 ha255) ?_
        exact by (
        clear ha255
        rintro _ w256 ⟨A257, c258, rfl, le259, hf260, hb⟩
        replace HS := HS.newNs hb (foot_cons hf260 foot_nil)
        refine ⟨_, rfl, ?_⟩
        clear hb
        obtain ⟨q261, H⟩ := if_some H
        obtain ⟨L262, hl263, h264, hF265, hc266⟩ := foot_all (HS.footN 0 rfl) (by decide) rfl
        replace HS := HS.addN (p := (rF kU t254 L262)) hF265
        exact by (
        refine WL.appendX HS 1 rfl rfl rfl (by decide) rfl (.int .u8 0) 1 Try.underlying53 (by kernel_rfl) rfl (by decide) (by decide) rfl rfl L262 hl263 hc266 h264 (by omega) ((((xs71 ++ t202) ++ t228) ++ t254).length) (by simp <;> omega) (fun v267 w268 I269 hI270 HS => ?_)
        dsimp only [List.set] at HS
        replace HS := HS.deriveO (p := (rF kU (((xs71 ++ t202) ++ t228) ++ t254) I269)) (fun W_ hO_ hN_ => reps_more hI270 hO_.2.2.1 hN_.1)
        refine as_ ?_
        refine dn_ hK245 ?_
        clear hK245
        refine sr_ fun _ hK271 => ?_
        refine mv_ ?_
        exact by (
        refine v_ (fa_ Try.underlying48) ?_
        obtain ⟨A272, c273, hc274, le275, HS⟩ := HS.sO 8 rfl at48_12
        obtain ⟨A276, c277, hc278, le279, HS⟩ := HS.sO 9 rfl at48_13
        refine v_ (ls_ (HS.mu 0 rfl) Try.underlying36 (part_cons (at48_11 (HS.aO 10 rfl)).int (part_cons hc274 (part_cons hc278 (part_cons (at48_14 (HS.aO 10 rfl)).int (part_cons (at48_15 (HS.aO 10 rfl)).int part_nil)))))) ?_
        obtain ⟨t280, ha281, H⟩ := bind_some H
        refine c_ Try.func98 (spec_l11Matrix.runs k183 ((x0.f5.getD i74.toNat o48).f3) A272 c273 A276 c277 t280 _ (HS.getO 1 rfl) le275 (HS.getO 0 rfl) le279 ha281) ?_
        clear ha281
        rintro _ w282 ⟨A283, c284, rfl, le285, hf286, hb⟩
        exact by (
        replace HS := HS.newNs hb (foot_cons hf286 foot_nil)
        refine ⟨_, rfl, ?_⟩
        clear hb
        obtain ⟨q287, H⟩ := if_some H
        obtain ⟨L288, hl289, h290, hF291, hc292⟩ := foot_all (HS.footN 0 rfl) (by decide) rfl
        replace HS := HS.addN (p := (rF kU t280 L288)) hF291
        refine WL.appendX HS 1 rfl rfl rfl (by decide) rfl (.int .u8 0) 1 Try.underlying53 (by kernel_rfl) rfl (by decide) (by decide) rfl rfl L288 hl289 hc292 h290 (by omega) (((((xs71 ++ t202) ++ t228) ++ t254) ++ t280).length) (by simp <;> omega) (fun v293 w294 I295 hI296 HS => ?_)
        dsimp only [List.set] at HS
        exact by (
        replace HS := HS.deriveO (p := (rF kU ((((xs71 ++ t202) ++ t228) ++ t254) ++ t280) I295)) (fun W_ hO_ hN_ => reps_more hI296 hO_.2.2.1 hN_.1)
        refine as_ ?_
        refine dn_ hK271 ?_
        clear hK271
        refine sr_ fun _ hK297 => ?_
        refine mv_ ?_
        refine v_ (fa_ Try.underlying48) ?_
        obtain ⟨A298, c299, hc300, le301, HS⟩ := HS.sO 11 rfl at48_17
        exact by (
        obtain ⟨A302, c303, hc304, le305, HS⟩ := HS.sO 12 rfl at48_18
        refine v_ (ls_ (HS.mu 0 rfl) Try.underlying36 (part_cons (at48_16 (HS.aO 13 rfl)).int (part_cons hc300 (part_cons hc304 (part_cons (at48_19 (HS.aO 13 rfl)).int (part_cons (at48_20 (HS.aO 13 rfl)).int part_nil)))))) ?_
        obtain ⟨t306, ha307, H⟩ := bind_some H
        refine c_ Try.func98 (spec_l11Matrix.runs k183 ((x0.f5.getD i74.toNat o48).f4) A298 c299 A302 c303 t306 _ (HS.getO 1 rfl) le301 (HS.getO 0 rfl) le305 ha307) ?_
        clear ha307
        rintro _ w308 ⟨A309, c310, rfl, le311, hf312, hb⟩
        replace HS := HS.newNs hb (foot_cons hf312 foot_nil)
        refine ⟨_, rfl, ?_⟩
        exact by (
        clear hb
        obtain ⟨q313, H⟩ := if_some H
        obtain ⟨L314, hl315, h316, hF317, hc318⟩ := foot_all (HS.footN 0 rfl) (by decide) rfl
        replace HS := HS.addN (p := (rF kU t306 L314)) hF317
        refine WL.appendX HS 1 rfl rfl rfl (by decide) rfl (.int .u8 0) 1 Try.underlying53 (by kernel_rfl) rfl (by decide) (by decide) rfl rfl L314 hl315 hc318 h316 (by omega) ((((((xs71 ++ t202) ++ t228) ++ t254) ++ t280) ++ t306).length) (by simp <;> omega) (fun v319 w320 I321 hI322 HS => ?_)
        dsimp only [List.set] at HS
        replace HS := HS.deriveO (p := (rF kU (((((xs71 ++ t202) ++ t228) ++ t254) ++ t280) ++ t306) I321)) (fun W_ hO_ hN_ => reps_more hI322 hO_.2.2.1 hN_.1)
        refine as_ ?_
        exact by (
        refine dn_ hK297 ?_
        clear hK297
        refine sr_ fun _ hK323 => ?_
        refine mv_ ?_
        refine v_ (fa_ Try.underlying48) ?_
        obtain ⟨A324, c325, hc326, le327, HS⟩ := HS.sO 14 rfl at48_21
        refine v_ (lb_ (HS.mu 0 rfl) Try.underlying25 hc326) ?_
        obtain ⟨t328, ha329, H⟩ := bind_some H
        exact by (
        refine c_ Try.func97 (spec_l11Bytes.runs k183 A324 c325 ((x0.f5.getD i74.toNat o48).f5) 0 t328 _ (HS.getO 0 rfl) le327 ha329) ?_
        clear ha329
        rintro _ w330 ⟨A331, c332, rfl, le333, hf334, hb⟩
        replace HS := HS.newNs hb (foot_cons hf334 foot_nil)
        refine ⟨_, rfl, ?_⟩
        clear hb
        obtain ⟨q335, H⟩ := if_some H
        obtain ⟨L336, hl337, h338, hF339, hc340⟩ := foot_all (HS.footN 0 rfl) (by decide) rfl
        exact by (
        replace HS := HS.addN (p := (rF kU t328 L336)) hF339
        refine WL.appendX HS 1 rfl rfl rfl (by decide) rfl (.int .u8 0) 1 Try.underlying53 (by kernel_rfl) rfl (by decide) (by decide) rfl rfl L336 hl337 hc340 h338 (by omega) (((((((xs71 ++ t202) ++ t228) ++ t254) ++ t280) ++ t306) ++ t328).length) (by simp <;> omega) (fun v341 w342 I343 hI344 HS => ?_)
        dsimp only [List.set] at HS
        replace HS := HS.deriveO (p := (rF kU ((((((xs71 ++ t202) ++ t228) ++ t254) ++ t280) ++ t306) ++ t328) I343)) (fun W_ hO_ hN_ => reps_more hI344 hO_.2.1 hN_.1)
        refine as_ ?_
        refine dn_ hK323 ?_
        clear hK323
        refine sr_ fun _ hK345 => ?_
        exact by (
        refine mv_ ?_
        refine v_ (fa_ Try.underlying48) ?_
        obtain ⟨A346, c347, hc348, le349, HS⟩ := HS.sO 16 rfl at48_23
        obtain ⟨A350, c351, hc352, le353, HS⟩ := HS.sO 17 rfl at48_24
        refine v_ (ls_ (HS.mu 0 rfl) Try.underlying36 (part_cons (at48_22 (HS.aO 18 rfl)).int (part_cons hc348 (part_cons hc352 (part_cons (at48_25 (HS.aO 18 rfl)).int (part_cons (at48_26 (HS.aO 18 rfl)).int part_nil)))))) ?_
        obtain ⟨t354, ha355, H⟩ := bind_some H
        refine c_ Try.func98 (spec_l11Matrix.runs k183 ((x0.f5.getD i74.toNat o48).f6) A346 c347 A350 c351 t354 _ (HS.getO 1 rfl) le349 (HS.getO 0 rfl) le353 ha355) ?_
        clear ha355
        exact by (
        rintro _ w356 ⟨A357, c358, rfl, le359, hf360, hb⟩
        replace HS := HS.newNs hb (foot_cons hf360 foot_nil)
        refine ⟨_, rfl, ?_⟩
        clear hb
        obtain ⟨q361, H⟩ := if_some H
        obtain ⟨L362, hl363, h364, hF365, hc366⟩ := foot_all (HS.footN 0 rfl) (by decide) rfl
        replace HS := HS.addN (p := (rF kU t354 L362)) hF365
        refine WL.appendX HS 1 rfl rfl rfl (by decide) rfl (.int .u8 0) 1 Try.underlying53 (by kernel_rfl) rfl (by decide) (by decide) rfl rfl L362 hl363 hc366 h364 (by omega) ((((((((xs71 ++ t202) ++ t228) ++ t254) ++ t280) ++ t306) ++ t328) ++ t354).length) (by simp <;> omega) (fun v367 w368 I369 hI370 HS => ?_)
        exact by (
        dsimp only [List.set] at HS
        replace HS := HS.deriveO (p := (rF kU (((((((xs71 ++ t202) ++ t228) ++ t254) ++ t280) ++ t306) ++ t328) ++ t354) I369)) (fun W_ hO_ hN_ => reps_more hI370 hO_.2.2.1 hN_.1)
        refine as_ ?_
        refine dn_ hK345 ?_
        clear hK345
        refine rg_ ?_
        refine mv_ ?_
        refine v_ (fa_ Try.underlying48) ?_
        exact by (
        obtain ⟨A371, c372, hc373, le374, HS⟩ := HS.sO 19 rfl at48_28
        obtain ⟨A375, c376, hc377, le378, HS⟩ := HS.sO 20 rfl at48_29
        refine v_ (ls_ (HS.mu 0 rfl) Try.underlying36 (part_cons (at48_27 (HS.aO 21 rfl)).int (part_cons hc373 (part_cons hc377 (part_cons (at48_30 (HS.aO 21 rfl)).int (part_cons (at48_31 (HS.aO 21 rfl)).int part_nil)))))) ?_
        obtain ⟨t379, ha380, H⟩ := bind_some H
        refine c_ Try.func98 (spec_l11Matrix.runs k183 ((x0.f5.getD i74.toNat o48).f7) A371 c372 A375 c376 t379 _ (HS.getO 1 rfl) le374 (HS.getO 0 rfl) le378 ha380) ?_
        clear ha380
        rintro _ w381 ⟨A382, c383, rfl, le384, hf385, hb⟩
        replace HS := HS.newNs hb (foot_cons hf385 foot_nil)
        exact by (
        refine ⟨_, rfl, ?_⟩
        clear hb
        obtain ⟨q386, H⟩ := if_some H
        obtain ⟨L387, hl388, h389, hF390, hc391⟩ := foot_all (HS.footN 0 rfl) (by decide) rfl
        replace HS := HS.addN (p := (rF kU t379 L387)) hF390
        refine WL.appendX HS 1 rfl rfl rfl (by decide) rfl (.int .u8 0) 1 Try.underlying53 (by kernel_rfl) rfl (by decide) (by decide) rfl rfl L387 hl388 hc391 h389 (by omega) (((((((((xs71 ++ t202) ++ t228) ++ t254) ++ t280) ++ t306) ++ t328) ++ t354) ++ t379).length) (by simp <;> omega) (fun v392 w393 I394 hI395 HS => ?_)
        dsimp only [List.set] at HS
        replace HS := HS.deriveO (p := (rF kU ((((((((xs71 ++ t202) ++ t228) ++ t254) ++ t280) ++ t306) ++ t328) ++ t354) ++ t379) I394)) (fun W_ hO_ hN_ => reps_more hI395 hO_.2.2.1 hN_.1)
        exact by (
        refine as_ ?_
        refine dn_ hK187 ?_
        clear hK187
        refine rg_ ?_
        refine mv_ ?_
        refine b_ bin_add64 ?_
        refine as_ ?_
        refine WL.done ?_
        exact WQ.round k183 (fun _ _ h_ => h_) (Nat.lt_succ_self _) ⟨((((((((xs71 ++ t202) ++ t228) ++ t254) ++ t280) ++ t306) ++ t328) ++ t354) ++ t379), v392, I394, (wrap64 (i74 + 1)), ⟨_, H, Ho70⟩, rfl, (St.pk (St.forget HS 0 rfl) [0, 25, 26, 27] [] rfl rfl)⟩ (sb rfl) )))))))))))))))))))))))))))))
      exact by (
      clear hK52
      refine WC.loop (fun k_ E_ W_ => ∃ xs58 v59 I60 i61, (∃ o_, spec_ModelText.l1 x0 k_ xs58 i61 = some o_ ∧ G54 o_ = some (r1, r2)) ∧ J62 xs58 v59 I60 i61 E_ W_) k ⟨xs45, v46, I47, 0, ⟨_, H, Ho57⟩, rfl, HS⟩ (sb rfl) ?_
      rintro k_ E_ w397 ⟨xs58, v59, I60, i61, ⟨oc56, H, Ho57⟩, rfl, HS⟩
      rcases k_ with _ | k398
      · exact no_ H
      replace H : spec_ModelText.b1 x0 (spec_ModelText.l1 x0 k398) k398 xs58 i61 = some oc56 := H
      unfold spec_ModelText.b1 at H
      refine WC.seq fun _ hK399 => ?_
      exact by (
      refine sr_ fun _ hK400 => ?_
      refine mv_ ?_
      refine v_ (fa_ Try.underlying39) ?_
      obtain ⟨A401, c402, hc403, le404, HS⟩ := HS.sO 3 rfl at39_4
      refine v_ (lb_ (HS.mu 1 rfl) Try.underlying23 hc403) ?_
      refine ln_ Try.underlying23 ?_
      refine b_ bin_lss ?_
      refine dn_ hK400 ?_
      exact by (
      clear hK400
      rcases eti_ H with ⟨c405, H⟩ | ⟨c405, H⟩
      · refine wn_ (dF c405) ?_
        refine WC.exit ?_
        obtain rfl := os H
        exact WQ.via2 (fun _ _ h_ => h_) X63 ⟨xs58, v59, I60, i61, Ho57, rfl, (St.pk HS [1, 2, 3, 4] [] rfl rfl)⟩ (sb rfl)
      refine wy_ (dT c405) ?_
      refine WC.skip ?_
      exact by (
      refine via_ hK399 ?_
      clear hK399
      refine WC.seq fun _ hK406 => ?_
      refine WC.block ?_
      refine rg_ ?_
      refine mv_ ?_
      refine v_ (fa_ Try.underlying39) ?_
      refine v_ (lb_ (HS.mu 1 rfl) Try.underlying23 hc403) ?_
      exact by (
      refine mv_ ?_
      obtain ⟨⟨q407, q408⟩, H⟩ := if_some H
      obtain ⟨ad409, rfl⟩ := C_open (HS.getO 0 rfl) (by omega)
      refine v_ (ia_ Try.underlying23 1 q407 q408) ?_
      obtain ⟨A410, c411, le412, HS⟩ := HS.slO 0 rfl i61 q407 q408
      refine v_ (Run.load rfl rfl Try.underlying25 rfl (HS.getO 1 rfl)) ?_
      obtain ⟨t413, ha414, H⟩ := bind_some H
      refine c_ Try.func97 (spec_l11Bytes.runs k398 A410 c411 (x0.f4.getD i61.toNat []) 128 t413 _ (HS.getO 0 rfl) le412 ha414) ?_
      exact by (
      clear ha414
      rintro _ w415 ⟨A416, c417, rfl, le418, hf419, hb⟩
      replace HS := HS.newNs hb (foot_cons hf419 foot_nil)
      refine ⟨_, rfl, ?_⟩
      clear hb
      obtain ⟨q420, H⟩ := if_some H
      obtain ⟨L421, hl422, h423, hF424, hc425⟩ := foot_all (HS.footN 0 rfl) (by decide) rfl
      replace HS := HS.addN (p := (rF kU t413 L421)) hF424
      exact by (
      refine WL.appendX HS 0 rfl rfl rfl (by decide) rfl (.int .u8 0) 1 Try.underlying53 (by kernel_rfl) rfl (by decide) (by decide) rfl rfl L421 hl422 hc425 h423 (by omega) ((xs58 ++ t413).length) (by simp <;> omega) (fun v426 w427 I428 hI429 HS => ?_)
      dsimp only [List.set] at HS
      replace HS := HS.deriveO (p := (rF kU (xs58 ++ t413) I428)) (fun W_ hO_ hN_ => reps_more hI429 hO_.2.2.2.1 hN_.1)
      refine as_ ?_
      refine dn_ hK406 ?_
      clear hK406
      refine rg_ ?_
      refine mv_ ?_
      exact by (
      refine b_ bin_add64 ?_
      refine as_ ?_
      refine WL.done ?_
      exact WQ.round k398 (fun _ _ h_ => h_) (Nat.lt_succ_self _) ⟨(xs58 ++ t413), v426, I428, (wrap64 (i61 + 1)), ⟨_, H, Ho57⟩, rfl, (St.pk HS [0, 5, 6, 7] [] rfl rfl)⟩ (sb rfl) ))))))))))
    clear hK39
    refine WC.loop (fun k_ E_ W_ => ∃ xs45 v46 I47 i48, (∃ o_, spec_ModelText.l2 x0 k_ xs45 i48 = some o_ ∧ G41 o_ = some (r1, r2)) ∧ J49 xs45 v46 I47 i48 E_ W_) k ⟨xs32, v33, I34, 0, ⟨_, H, Ho44⟩, rfl, HS⟩ (sb rfl) ?_
    rintro k_ E_ w431 ⟨xs45, v46, I47, i48, ⟨oc43, H, Ho44⟩, rfl, HS⟩
    rcases k_ with _ | k432
    · exact no_ H
    exact by (
    replace H : spec_ModelText.b2 x0 (spec_ModelText.l2 x0 k432) k432 xs45 i48 = some oc43 := H
    unfold spec_ModelText.b2 at H
    refine WC.seq fun _ hK433 => ?_
    refine sr_ fun _ hK434 => ?_
    refine mv_ ?_
    refine v_ (fa_ Try.underlying39) ?_
    refine v_ (lb_ (HS.mu 1 rfl) Try.underlying34 hc16) ?_
    refine ln_ Try.underlying34 ?_
    exact by (
    refine b_ bin_lss ?_
    refine dn_ hK434 ?_
    clear hK434
    rcases eti_ H with ⟨c435, H⟩ | ⟨c435, H⟩
    · refine wn_ (dF c435) ?_
      refine WC.exit ?_
      obtain rfl := os H
      exact WQ.via2 (fun _ _ h_ => h_) X50 ⟨xs45, v46, I47, i48, Ho44, rfl, HS⟩ (sb rfl)
    exact by (
    refine wy_ (dT c435) ?_
    refine WC.skip ?_
    refine via_ hK433 ?_
    clear hK433
    refine WC.seq fun _ hK436 => ?_
    refine WC.block ?_
    refine WC.drawW HS [boxM b2 cs0.toArray 39] (fun _ HS => ⟨(HS.mu 1 rfl), trivial⟩) [] rfl rfl (fun w437 HS => ?_)
    refine dm_ 0 ?_
    exact by (
    refine df_ 1 Try.underlying39 ?_
    refine dm_ 3 ?_
    refine df_ 9 Try.underlying39 ?_
    refine dm_ 11 ?_
    refine dt_ 2 ⟨HS.nowO, HS.nowN, ⟨(HS.mu 1 rfl), trivial⟩⟩ (fun w_ hw_ => Run.load rfl rfl Try.underlying34 rfl (box_cell hw_.2.2.1 hc16)) ?_
    obtain ⟨⟨q438, q439⟩, H⟩ := if_some H
    obtain ⟨ad440, rfl⟩ := C_open (HS.getO 2 rfl) (by omega)
    refine di_ 4 Try.underlying34 2 q438 q439 ?_
    exact by (
    refine df_ 5 Try.underlying112 ?_
    obtain ⟨e441, el442, HS⟩ := HS.elO 2 rfl (by decide) o112 i48 q438 q439
    refine dt_ 6 ⟨HS.nowO.2, HS.nowN, ⟨(HS.mu 1 rfl), trivial⟩⟩ (fun w_ hw_ => Run.load rfl rfl Try.underlying3 rfl (el_at (AllF.get 2 rfl hw_.1) o112 i48 q438 q439 (fun _ h_ => (at112_0 (AtK.whole h_)).int))) ?_
    refine dt_ 10 ⟨HS.nowO.2, HS.nowN, ⟨(HS.mu 1 rfl), trivial⟩⟩ (fun w_ hw_ => Run.load rfl rfl Try.underlying34 rfl (box_cell hw_.2.2.1 hc16)) ?_
    refine di_ 12 Try.underlying34 2 q438 q439 ?_
    refine df_ 13 Try.underlying112 ?_
    refine dt_ 14 ⟨HS.nowO.2, HS.nowN, ⟨(HS.mu 1 rfl), trivial⟩⟩ (fun w_ hw_ => Run.load rfl rfl Try.underlying3 rfl (el_at (AllF.get 2 rfl hw_.1) o112 i48 q438 q439 (fun _ h_ => (at112_1 (AtK.whole h_)).int))) ?_
    obtain ⟨t443, ha444, H⟩ := bind_some H
    exact by (
    refine dc_ 7 (w_none rfl) Try.func96 (spec_l11Two.runs k432 ((x0.f3.getD i48.toNat o112).f0) t443 _  ha444) ?_
    clear ha444
    rintro _ w445 ⟨A446, c447, rfl, le448, hf449, hb⟩
    replace HS := HS.newNs hb (foot_cons hf449 foot_nil)
    refine ⟨⟨HS.nowO.2, HS.nowN.2, ⟨(HS.mu 1 rfl), trivial⟩⟩, _, rfl, ?_⟩
    clear hb
    obtain ⟨q450, H⟩ := if_some H
    obtain ⟨L451, hl452, h453, hF454, hc455⟩ := foot_all (HS.footN 0 rfl) (by decide) rfl
    exact by (
    replace HS := HS.addN (p := (rF kU t443 L451)) hF454
    refine WD.appendX 8 (w_none rfl) HS 0 rfl rfl (.int .u8 0) 1 Try.underlying53 (by kernel_rfl) rfl (by decide) (by decide) rfl rfl L451 hl452 hc455 h453 (by omega) ((xs45 ++ t443).length) (by simp <;> omega) (fun v456 w457 I458 hI459 HS => ?_)
    dsimp only [List.set] at HS
    replace HS := HS.deriveO (p := (rF kU (xs45 ++ t443) I458)) (fun W_ hO_ hN_ => reps_more hI459 hO_.2.1 hN_.1)
    refine ⟨⟨HS.nowO.2.2, HS.nowN.2.2, ⟨(HS.mu 1 rfl), trivial⟩⟩, ?_⟩
    obtain ⟨t460, ha461, H⟩ := bind_some H
    refine dc_ 15 (w_none rfl) Try.func96 (spec_l11Two.runs k432 ((x0.f3.getD i48.toNat o112).f1) t460 _  ha461) ?_
    clear ha461
    exact by (
    rintro _ w462 ⟨A463, c464, rfl, le465, hf466, hb⟩
    replace HS := HS.newNs hb (foot_cons hf466 foot_nil)
    refine ⟨⟨HS.nowO.2.2, HS.nowN.2.2.2, ⟨(HS.mu 1 rfl), trivial⟩⟩, _, rfl, ?_⟩
    clear hb
    obtain ⟨q467, H⟩ := if_some H
    obtain ⟨L468, hl469, h470, hF471, hc472⟩ := foot_all (HS.footN 0 rfl) (by decide) rfl
    replace HS := HS.addN (p := (rF kU t460 L468)) hF471
    refine WD.appendX 16 (w_none rfl) HS 0 rfl rfl (.int .u8 0) 1 Try.underlying53 (by kernel_rfl) rfl (by decide) (by decide) rfl rfl L468 hl469 hc472 h470 (by omega) (((xs45 ++ t443) ++ t460).length) (by simp <;> omega) (fun v473 w474 I475 hI476 HS => ?_)
    exact by (
    dsimp only [List.set] at HS
    replace HS := HS.deriveO (p := (rF kU ((xs45 ++ t443) ++ t460) I475)) (fun W_ hO_ hN_ => reps_more hI476 hO_.1 hN_.1)
    refine ⟨⟨HS.nowO.2.2.2, HS.nowN.2.2.2.2, ⟨(HS.mu 1 rfl), trivial⟩⟩, ?_⟩
    refine dp_ 17 (fun _ => Run.assign rfl rfl) ?_
    refine dd_ ?_
    refine via_ hK436 ?_
    clear hK436
    refine rg_ ?_
    exact by (
    refine mv_ ?_
    refine b_ bin_add64 ?_
    refine as_ ?_
    refine WL.done ?_
    exact WQ.round k432 (fun _ _ h_ => h_) (Nat.lt_succ_self _) ⟨((xs45 ++ t443) ++ t460), v473, I475, (wrap64 (i48 + 1)), ⟨_, H, Ho44⟩, rfl, (St.pk HS [0, 4, 5, 6] [] rfl rfl)⟩ (sb rfl) )))))))))))
  clear hK26
  refine WC.loop (fun k_ E_ W_ => ∃ xs32 v33 I34 i35, (∃ o_, spec_ModelText.l3 x0 k_ xs32 i35 = some o_ ∧ G28 o_ = some (r1, r2)) ∧ J36 xs32 v33 I34 i35 E_ W_) k ⟨([84, 77, 49] ++ [IntKind.u8.wrap (x0.f0), IntKind.u8.wrap (x0.f1), IntKind.u8.wrap (x0.f2), IntKind.u8.wrap ((x0.f3.length : Int)), IntKind.u8.wrap ((x0.f5.length : Int))]), v22, I24, 0, ⟨_, H, Ho31⟩, rfl, (St.pk HS [0, 1, 2, 4] [] rfl rfl)⟩ (sb rfl) ?_
  rintro k_ E_ w478 ⟨xs32, v33, I34, i35, ⟨oc30, H, Ho31⟩, rfl, HS⟩
  exact by (
  rcases k_ with _ | k479
  · exact no_ H
  replace H : spec_ModelText.b3 x0 (spec_ModelText.l3 x0 k479) k479 xs32 i35 = some oc30 := H
  unfold spec_ModelText.b3 at H
  refine WC.seq fun _ hK480 => ?_
  refine sr_ fun _ hK481 => ?_
  refine mv_ ?_
  refine v_ (fa_ Try.underlying39) ?_
  exact by (
  refine v_ (lb_ (HS.mu 1 rfl) Try.underlying35 hc20) ?_
  refine ln_ Try.underlying35 ?_
  refine b_ bin_lss ?_
  refine dn_ hK481 ?_
  clear hK481
  rcases eti_ H with ⟨c482, H⟩ | ⟨c482, H⟩
  · refine wn_ (dF c482) ?_
    refine WC.exit ?_
    obtain rfl := os H
    exact WQ.via2 (fun _ _ h_ => h_) X37 ⟨xs32, v33, I34, i35, Ho31, rfl, HS⟩ (sb rfl)
  exact by (
  refine wy_ (dT c482) ?_
  refine WC.skip ?_
  refine via_ hK480 ?_
  clear hK480
  refine WC.seq fun _ hK483 => ?_
  refine WC.block ?_
  refine rg_ ?_
  refine mv_ ?_
  exact by (
  refine v_ (fa_ Try.underlying39) ?_
  refine v_ (lb_ (HS.mu 1 rfl) Try.underlying35 hc20) ?_
  refine mv_ ?_
  obtain ⟨⟨q484, q485⟩, H⟩ := if_some H
  obtain ⟨ad486, rfl⟩ := C_open (HS.getO 1 rfl) (by omega)
  refine v_ (ia_ Try.underlying35 32 q484 q485) ?_
  refine v_ (fa_ Try.underlying48) ?_
  refine v_ (Run.fieldAddr rfl rfl Try.underlying36 rfl (by kernel_rfl) (XLoad.add_add _ _ _)) ?_
  exact by (
  obtain ⟨e487, el488, HS⟩ := HS.elO 1 rfl (by decide) o48 i35 q484 q485
  obtain ⟨A489, c490, hc491, le492, HS⟩ := HS.eO 0 rfl at48_23
  refine v_ (Run.load rfl rfl Try.underlying23 rfl ((HS.getO 1 rfl).2 23 _ hc491)) ?_
  refine ln_ Try.underlying23 ?_
  refine v_ (Run.convI rfl Try.underlying3 Try.underlying5 rfl) ?_
  refine WL.val rfl rfl (by decide) (Run.lit1 (z := (.int .u8 0)) (vs := [.int .u8 (IntKind.u8.wrap (((x0.f5.getD i35.toNat o48).f6.f1.length : Int)))]) rfl rfl rfl Try.underlying53 (by kernel_rfl) (Nat.le_of_ble_eq_true rfl) (Nat.le_of_ble_eq_true rfl)) ?_
  have HS1 := HS.below (below_alloc (Below.refl _ _) (.cells #[.int .u8 (IntKind.u8.wrap (((x0.f5.getD i35.toNat o48).f6.f1.length : Int)))] 5))
  obtain ⟨q493, H⟩ := if_some H
  exact by (
  refine WL.appendX HS1 0 rfl rfl rfl (by decide) rfl (.int .u8 0) 1 Try.underlying53 (by kernel_rfl) rfl (by decide) (by decide) rfl rfl [.int .u8 (IntKind.u8.wrap (((x0.f5.getD i35.toNat o48).f6.f1.length : Int)))] rfl (fun _ => ⟨_, rfl, lit_news _ _ _⟩) (oneL rfl) (by omega) ((xs32 ++ [IntKind.u8.wrap (((x0.f5.getD i35.toNat o48).f6.f1.length : Int))]).length) (by simp) (fun v494 w495 I496 hI497 HS => ?_)
  dsimp only [List.set] at HS
  replace HS := HS.deriveO (p := (rF kU (xs32 ++ [IntKind.u8.wrap (((x0.f5.getD i35.toNat o48).f6.f1.length : Int))]) I496)) (fun W_ hO_ hN_ => reps_snoc hI497 hO_.2.2.1 (K_int _))
  clear HS1
  refine as_ ?_
  refine dn_ hK483 ?_
  clear hK483
  refine rg_ ?_
  exact by (
  refine mv_ ?_
  refine b_ bin_add64 ?_
  refine as_ ?_
  refine WL.done ?_
  exact WQ.round k479 (fun _ _ h_ => h_) (Nat.lt_succ_self _) ⟨(xs32 ++ [IntKind.u8.wrap (((x0.f5.getD i35.toNat o48).f6.f1.length : Int))]), v494, I496, (wrap64 (i35 + 1)), ⟨_, H, Ho31⟩, rfl, (St.pk HS [0, 4, 5, 6] [] rfl rfl)⟩ (sb rfl) )))))))))))))))
def spec_FileBytes.g (k : Nat) (x0 : S39) : Option Int := ((spec_ModelText.g k x0).bind fun t5 => (some (t5.1.size : Int)))
theorem spec_FileBytes.runs (k : Nat) (cs0 : List Value) (x0 : S39) (r : Int) (w : World) (hk0 : k39.K w x0 cs0) (H : spec_FileBytes.g k x0 = some r) :
    Calls Try.prog 39 #[.agg cs0.toArray] w fun e w' => e = .returned (.int .i64 r) ∧ Below w.heap.size w w' := by
  have el0 : cs0.length = 14 := k39.K_len hk0
  unfold spec_FileBytes.g at H
  have HS : St (fun _ => True) w w [] [(kF k39 x0 cs0)] [] := St.start (foot_cons (foot_K h39 hk0) foot_nil)
  refine cw_ (n := 12) Try.func39 fun R_ hR_ => ?_
  refine sr_ fun _ hK1 => ?_
  refine bo_ HS (fun b2 w3 hb2 HS => ?_)
  refine as_ ?_
  refine dn_ hK1 ?_
  refine sr_ fun _ hK4 => ?_
  refine v_ (Run.loadS (cs := cs0) rfl rfl Try.underlying39 rfl (by rw [el0]; kernel_rfl) (box_part (HS.mu 0 rfl) part_all)) ?_
  obtain ⟨t5, ha6, H⟩ := bind_some H
  refine cs_ HS Try.func37 (spec_ModelText.runs k cs0 x0 t5.1 t5.2 _ (HS.getO 0 rfl) ha6) (fun w7 HS => ?_)
  clear ha6
  refine mv_ ?_
  refine v_ (Run.extract rfl rfl rfl) ?_
  refine v_ (Run.extract rfl rfl rfl) ?_
  refine as_ ?_
  refine as_ ?_
  refine dn_ hK4 ?_
  refine sr_ fun _ hK8 => ?_
  refine mv_ ?_
  refine v_ (Run.lenStr rfl Try.underlying9 rfl) ?_
  refine as_ ?_
  refine dn_ hK8 ?_
  obtain rfl := os H
  exact rt1 Try.f39 rfl rfl hR_ ⟨rfl, HS.b⟩
def laws_FnExactFileBytes.g (k : Nat) (x0 : S31) : Option Bool := ((laws_szModel.g k x0 1048576).bind fun t6 => (if t6 < 0 then (some true) else ((laws_toModel.g k x0).bind fun t14 => ((spec_FileBytes.g k t14).bind fun t20 => ((laws_toModel.g k x0).bind fun t24 => ((impl_FileBytes.g k t24).bind fun t34 => (if t34 = t20 then ((laws_toModel.g k x0).bind fun t43 => ((laws_eqModel.g k t24 t43).bind fun t49 => (if t49 = true then (some true) else (some false)))) else (some false))))))))
theorem laws_FnExactFileBytes.runs (k : Nat) (cs0 : List Value) (x0 : S31) (r : Bool) (w : World) (hk0 : k31.K w x0 cs0) (H : laws_FnExactFileBytes.g k x0 = some r) :
    Calls Try.prog 12 #[.agg cs0.toArray] w fun e w' => e = .returned (.bool r) ∧ Below w.heap.size w w' := by
  have el0 : cs0.length = 14 := k31.K_len hk0
  unfold laws_FnExactFileBytes.g at H
  have HS : St (fun _ => True) w w [] [(kF k31 x0 cs0)] [] := St.start (foot_cons (foot_K h31 hk0) foot_nil)
  refine cw_ (n := 27) Try.func12 fun R_ hR_ => ?_
  refine sr_ fun _ hK1 => ?_
  refine bo_ HS (fun b2 w3 hb2 HS => ?_)
  refine as_ ?_
  refine dn_ hK1 ?_
  refine sr_ fun _ hK4 => ?_
  refine as_ ?_
  refine dn_ hK4 ?_
  refine sr_ fun _ hK5 => ?_
  refine v_ (Run.loadS (cs := cs0) rfl rfl Try.underlying31 rfl (by rw [el0]; kernel_rfl) (box_part (HS.mu 0 rfl) part_all)) ?_
  refine mv_ ?_
  obtain ⟨t6, ha7, H⟩ := bind_some H
  refine cs_ HS Try.func14 (laws_szModel.runs k cs0 x0 1048576 t6 _ (HS.getO 0 rfl) ha7) (fun w8 HS => ?_)
  clear ha7
  refine as_ ?_
  refine dn_ hK5 ?_
  refine WC.seq fun _ hK9 => ?_
  refine sr_ fun _ hK10 => ?_
  refine mv_ ?_
  refine b_ bin_lss ?_
  refine dn_ hK10 ?_
  rcases ite_ H with ⟨c11, H⟩ | ⟨c11, H⟩
  · refine wy_ (dT c11) ?_
    refine sr_ fun _ hK12 => ?_
    refine as_ ?_
    refine dn_ hK12 ?_
    obtain rfl := os H
    exact rt1 Try.f12 rfl rfl hR_ ⟨rfl, HS.b⟩
  refine wn_ (dF c11) ?_
  refine WC.skip ?_
  refine via_ hK9 ?_
  refine sr_ fun _ hK13 => ?_
  refine v_ (Run.loadS (cs := cs0) rfl rfl Try.underlying31 rfl (by rw [el0]; kernel_rfl) (box_part (HS.mu 0 rfl) part_all)) ?_
  obtain ⟨t14, ha15, H⟩ := bind_some H
  refine c_ Try.func16 (laws_toModel.runs k cs0 x0 t14 _ (HS.getO 0 rfl) ha15) ?_
  clear ha15
  rintro _ w16 ⟨cs17, rfl, hf18, hb⟩
  replace HS := HS.newNs hb (foot_cons hf18 foot_nil)
  have el19 : cs17.length = 14 := k39.K_len (Foot.now hf18)
  refine ⟨_, rfl, ?_⟩
  clear hb
  obtain ⟨t20, ha21, H⟩ := bind_some H
  refine cs_ HS Try.func39 (spec_FileBytes.runs k cs17 t14 t20 _ (HS.getN 0 rfl) ha21) (fun w22 HS => ?_)
  clear ha21
  refine as_ ?_
  refine dn_ hK13 ?_
  refine sr_ fun _ hK23 => ?_
  refine v_ (Run.loadS (cs := cs0) rfl rfl Try.underlying31 rfl (by rw [el0]; kernel_rfl) (box_part (HS.mu 0 rfl) part_all)) ?_
  obtain ⟨t24, ha25, H⟩ := bind_some H
  refine c_ Try.func16 (laws_toModel.runs k cs0 x0 t24 _ (HS.getO 0 rfl) ha25) ?_
  clear ha25
  rintro _ w26 ⟨cs27, rfl, hf28, hb⟩
  replace HS := HS.newNs hb (foot_cons hf28 foot_nil)
  have el29 : cs27.length = 14 := k39.K_len (Foot.now hf28)
  refine ⟨_, rfl, ?_⟩
  clear hb
  refine WL.alloc HS (v := .agg #[.int .i64 0, .int .i64 0, .int .i64 0, .slice none 0 0, .slice none 0 0, .slice none 0 0, .slice none 0 0, .int .i64 0, .slice none 0 0, .slice none 0 0, .int .i64 0, .int .i64 0, .slice none 0 0, .slice none 0 0]) (cs := #[.int .i64 0, .int .i64 0, .int .i64 0, .slice none 0 0, .slice none 0 0, .slice none 0 0, .slice none 0 0, .int .i64 0, .slice none 0 0, .slice none 0 0, .int .i64 0, .int .i64 0, .slice none 0 0, .slice none 0 0]) rfl rfl (by decide) rfl (by kernel_rfl) rfl (fun b30 w31 hb30 HS => ?_)
  refine WL.storeS HS 0 rfl rfl rfl rfl rfl rfl (Kd.K_one _ (HS.getN 0 rfl)) (by rw [el29]; kernel_rfl) (by rw [el29]; decide) (splice_all (by rw [el29]; rfl)) (fun w32 HS => ?_)
  dsimp only [List.set] at HS
  refine dn_ hK23 ?_
  refine sr_ fun _ hK33 => ?_
  refine v_ (Run.loadS (cs := cs27) rfl rfl Try.underlying39 rfl (by rw [el29]; kernel_rfl) (box_part (HS.mu 0 rfl) part_all)) ?_
  obtain ⟨t34, ha35, H⟩ := bind_some H
  refine cs_ HS Try.func40 (impl_FileBytes.runs k cs27 t24 t34 _ (HS.getN 0 rfl) ha35) (fun w36 HS => ?_)
  clear ha35
  refine as_ ?_
  refine dn_ hK33 ?_
  refine WC.seq fun _ hK37 => ?_
  refine sr_ fun _ hK38 => ?_
  refine mv_ ?_
  refine mv_ ?_
  refine b_ bin_neq ?_
  refine dn_ hK38 ?_
  rcases eti_ H with ⟨c39, H⟩ | ⟨c39, H⟩
  · refine wy_ (qT c39) ?_
    refine sr_ fun _ hK55 => ?_
    refine as_ ?_
    refine dn_ hK55 ?_
    obtain rfl := os H
    exact rt1 Try.f12 rfl rfl hR_ ⟨rfl, HS.b⟩
  refine wn_ (qF c39) ?_
  refine WC.skip ?_
  refine via_ hK37 ?_
  refine WC.seq fun _ hK40 => ?_
  refine WC.seq fun _ hK41 => ?_
  refine WC.drawS HS [] rfl rfl (fun w42 HS => ?_)
  have HB := Below.refl w42.heap.size w42
  have HSW := HS
  refine dt_ 0 (Below.refl _ _) (fun w_ hw_ => Run.loadS (cs := cs27) rfl rfl Try.underlying39 rfl (by rw [el29]; kernel_rfl) (box_part ((HS.below hw_).mu 0 rfl) part_all)) ?_
  refine dt_ 1 (Below.refl _ _) (fun w_ hw_ => Run.loadS (cs := cs0) rfl rfl Try.underlying31 rfl (by rw [el0]; kernel_rfl) (box_part ((HS.below hw_).mu 1 rfl) part_all)) ?_
  obtain ⟨t43, ha44, H⟩ := bind_some H
  refine dc_ 2 (w_none rfl) Try.func16 (laws_toModel.runs k cs0 x0 t43 _ (HS.getO 0 rfl) ha44) ?_
  clear ha44
  rintro _ w45 ⟨cs46, rfl, hf47, hb⟩
  replace HB := HB.trans (hb.mono HB.size)
  replace HS := HS.newNs hb (foot_cons hf47 foot_nil)
  have el48 : cs46.length = 14 := k39.K_len (Foot.now hf47)
  refine ⟨HB, _, rfl, ?_⟩
  clear hb
  obtain ⟨t49, ha50, H⟩ := bind_some H
  refine dcs_ HS HB 3 (w_none rfl) Try.func18 (laws_eqModel.runs k cs27 t24 cs46 t43 t49 _ (HS.getN 1 rfl) (HS.getN 0 rfl) ha50) (fun w51 HS HB => ?_)
  clear ha50
  refine dp_ 4 (fun _ => Run.not rfl rfl) ?_
  refine dd_ ?_
  clear HB HSW
  refine via_ hK41 ?_
  rcases eti_ H with ⟨c52, H⟩ | ⟨c52, H⟩
  · refine wy_ (nB (bF c52)) ?_
    refine sr_ fun _ hK54 => ?_
    refine as_ ?_
    refine dn_ hK54 ?_
    obtain rfl := os H
    exact rt1 Try.f12 rfl rfl hR_ ⟨rfl, HS.b⟩
  refine wn_ (nB c52) ?_
  refine WC.skip ?_
  refine via_ hK40 ?_
  refine sr_ fun _ hK53 => ?_
  refine as_ ?_
  refine dn_ hK53 ?_
  obtain rfl := os H
  exact rt1 Try.f12 rfl rfl hR_ ⟨rfl, HS.b⟩
def okT3 (x : Int) : Prop := (Lit.int .i64 x).wf = true
theorem opensT3 : XOpen.Opens Try.prog 3 kI okT3 := XOpen.opens_int Try.underlying3
def okT129 (x : S129) : Prop := okT3 x.f0 ∧ okT3 x.f1
theorem opensT129 : XOpen.Opens Try.prog 129 k129 okT129 := by
  intro H enc w base held fuel cs x h
  obtain ⟨xs, n, _, _, hl, hlen, hf⟩ := DataW.trod_struct Try.underlying129 h
  obtain ⟨a0, p0⟩ := XOpen.part_field hlen hf 0 rfl (by kernel_rfl) opensT3
  obtain ⟨a1, p1⟩ := XOpen.part_field hlen hf 1 rfl (by kernel_rfl) opensT3
  obtain ⟨hk, hg⟩ := XOpen.part_all (XOpen.part_pair p0 p1 rfl) (hl.trans (by kernel_rfl))
  exact ⟨⟨a0, a1⟩, hk, hg⟩
def okT22 (xs : List S129) : Prop := xs.length ≤ 9223372036854775807 ∧ ∀ x ∈ xs, okT129 x
theorem opensT22 : XOpen.Opens Try.prog 22 kS129 okT22 := XOpen.opens_slice Try.underlying22 (by kernel_rfl) opensT129
def okT25 (xs : List Int) : Prop := xs.length ≤ 9223372036854775807 ∧ ∀ x ∈ xs, okT3 x
theorem opensT25 : XOpen.Opens Try.prog 25 kS3 okT25 := XOpen.opens_slice Try.underlying25 (by kernel_rfl) opensT3
def okT23 (xs : List (List Int)) : Prop := xs.length ≤ 9223372036854775807 ∧ ∀ x ∈ xs, okT25 x
theorem opensT23 : XOpen.Opens Try.prog 23 kS25 okT23 := XOpen.opens_slice Try.underlying23 (by kernel_rfl) opensT25
def okT27 (x : S27) : Prop := okT3 x.f0 ∧ okT23 x.f1 ∧ okT23 x.f2 ∧ okT3 x.f3 ∧ okT3 x.f4
theorem opensT27 : XOpen.Opens Try.prog 27 k27 okT27 := by
  intro H enc w base held fuel cs x h
  obtain ⟨xs, n, _, _, hl, hlen, hf⟩ := DataW.trod_struct Try.underlying27 h
  obtain ⟨a0, p0⟩ := XOpen.part_field hlen hf 0 rfl (by kernel_rfl) opensT3
  obtain ⟨a1, p1⟩ := XOpen.part_field hlen hf 1 rfl (by kernel_rfl) opensT23
  obtain ⟨a2, p2⟩ := XOpen.part_field hlen hf 2 rfl (by kernel_rfl) opensT23
  obtain ⟨a3, p3⟩ := XOpen.part_field hlen hf 3 rfl (by kernel_rfl) opensT3
  obtain ⟨a4, p4⟩ := XOpen.part_field hlen hf 4 rfl (by kernel_rfl) opensT3
  obtain ⟨hk, hg⟩ := XOpen.part_all (XOpen.part_pair p0 (XOpen.part_pair p1 (XOpen.part_pair p2 (XOpen.part_pair p3 p4 rfl) rfl) rfl) rfl) (hl.trans (by kernel_rfl))
  exact ⟨⟨a0, a1, a2, a3, a4⟩, hk, hg⟩
def okT44 (x : S44) : Prop := okT25 x.f0 ∧ okT27 x.f1 ∧ okT27 x.f2 ∧ okT27 x.f3 ∧ okT27 x.f4 ∧ okT25 x.f5 ∧ okT27 x.f6 ∧ okT27 x.f7
theorem opensT44 : XOpen.Opens Try.prog 44 k44 okT44 := by
  intro H enc w base held fuel cs x h
  obtain ⟨xs, n, _, _, hl, hlen, hf⟩ := DataW.trod_struct Try.underlying44 h
  obtain ⟨a0, p0⟩ := XOpen.part_field hlen hf 0 rfl (by kernel_rfl) opensT25
  obtain ⟨a1, p1⟩ := XOpen.part_field hlen hf 1 rfl (by kernel_rfl) opensT27
  obtain ⟨a2, p2⟩ := XOpen.part_field hlen hf 2 rfl (by kernel_rfl) opensT27
  obtain ⟨a3, p3⟩ := XOpen.part_field hlen hf 3 rfl (by kernel_rfl) opensT27
  obtain ⟨a4, p4⟩ := XOpen.part_field hlen hf 4 rfl (by kernel_rfl) opensT27
  obtain ⟨a5, p5⟩ := XOpen.part_field hlen hf 5 rfl (by kernel_rfl) opensT25
  obtain ⟨a6, p6⟩ := XOpen.part_field hlen hf 6 rfl (by kernel_rfl) opensT27
  obtain ⟨a7, p7⟩ := XOpen.part_field hlen hf 7 rfl (by kernel_rfl) opensT27
  obtain ⟨hk, hg⟩ := XOpen.part_all (XOpen.part_pair p0 (XOpen.part_pair p1 (XOpen.part_pair p2 (XOpen.part_pair p3 (XOpen.part_pair p4 (XOpen.part_pair p5 (XOpen.part_pair p6 p7 rfl) rfl) rfl) rfl) rfl) rfl) rfl) (hl.trans (by kernel_rfl))
  exact ⟨⟨a0, a1, a2, a3, a4, a5, a6, a7⟩, hk, hg⟩
def okT24 (xs : List S44) : Prop := xs.length ≤ 9223372036854775807 ∧ ∀ x ∈ xs, okT44 x
theorem opensT24 : XOpen.Opens Try.prog 24 kS44 okT24 := XOpen.opens_slice Try.underlying24 (by kernel_rfl) opensT44
def okT29 (x : S29) : Prop := okT23 x.f0 ∧ okT23 x.f1
theorem opensT29 : XOpen.Opens Try.prog 29 k29 okT29 := by
  intro H enc w base held fuel cs x h
  obtain ⟨xs, n, _, _, hl, hlen, hf⟩ := DataW.trod_struct Try.underlying29 h
  obtain ⟨a0, p0⟩ := XOpen.part_field hlen hf 0 rfl (by kernel_rfl) opensT23
  obtain ⟨a1, p1⟩ := XOpen.part_field hlen hf 1 rfl (by kernel_rfl) opensT23
  obtain ⟨hk, hg⟩ := XOpen.part_all (XOpen.part_pair p0 p1 rfl) (hl.trans (by kernel_rfl))
  exact ⟨⟨a0, a1⟩, hk, hg⟩
def okT31 (x : S31) : Prop := okT3 x.f0 ∧ okT3 x.f1 ∧ okT3 x.f2 ∧ okT22 x.f3 ∧ okT23 x.f4 ∧ okT24 x.f5 ∧ okT25 x.f6 ∧ okT27 x.f7 ∧ okT29 x.f8
theorem opensT31 : XOpen.Opens Try.prog 31 k31 okT31 := by
  intro H enc w base held fuel cs x h
  obtain ⟨xs, n, _, _, hl, hlen, hf⟩ := DataW.trod_struct Try.underlying31 h
  obtain ⟨a0, p0⟩ := XOpen.part_field hlen hf 0 rfl (by kernel_rfl) opensT3
  obtain ⟨a1, p1⟩ := XOpen.part_field hlen hf 1 rfl (by kernel_rfl) opensT3
  obtain ⟨a2, p2⟩ := XOpen.part_field hlen hf 2 rfl (by kernel_rfl) opensT3
  obtain ⟨a3, p3⟩ := XOpen.part_field hlen hf 3 rfl (by kernel_rfl) opensT22
  obtain ⟨a4, p4⟩ := XOpen.part_field hlen hf 4 rfl (by kernel_rfl) opensT23
  obtain ⟨a5, p5⟩ := XOpen.part_field hlen hf 5 rfl (by kernel_rfl) opensT24
  obtain ⟨a6, p6⟩ := XOpen.part_field hlen hf 6 rfl (by kernel_rfl) opensT25
  obtain ⟨a7, p7⟩ := XOpen.part_field hlen hf 7 rfl (by kernel_rfl) opensT27
  obtain ⟨a8, p8⟩ := XOpen.part_field hlen hf 8 rfl (by kernel_rfl) opensT29
  obtain ⟨hk, hg⟩ := XOpen.part_all (XOpen.part_pair p0 (XOpen.part_pair p1 (XOpen.part_pair p2 (XOpen.part_pair p3 (XOpen.part_pair p4 (XOpen.part_pair p5 (XOpen.part_pair p6 (XOpen.part_pair p7 p8 rfl) rfl) rfl) rfl) rfl) rfl) rfl) rfl) (hl.trans (by kernel_rfl))
  exact ⟨⟨a0, a1, a2, a3, a4, a5, a6, a7, a8⟩, hk, hg⟩
/-- THE ONE PURE STATEMENT of laws_FnExactFileBytes. -/
def laws_FnExactFileBytes.Pure : Prop := ∀ (x0 : S31), okT31 x0 → ∃ k, laws_FnExactFileBytes.g k x0 = some true
end Go.Proofs.Ytacbkcofcbglhaa.PFnExactFileBytes
