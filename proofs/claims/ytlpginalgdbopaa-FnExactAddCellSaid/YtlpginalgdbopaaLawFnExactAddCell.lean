/- The row: the law answers true, and changes nothing that was there. No conditions. -/
import Derived.Test.YtlpginalgdbopaaRows
import Derived.Test.YtlpginalgdbopaaGFnExactAddCell5
import Derived.Test.YtlpginalgdbopaaPureFnExactAddCell
import Derived.WalkKit
import Derived.ProofKit
import Derived.OpenShut
import Derived.ShutString
import Derived.ChangeOld
import Derived.Below
import Derived.SizedLaws
namespace Go.Proofs.Ytlpginalgdbopaa.fnExactAddCell
open Go.ChangeShapes Go.WideShapes Go.ChangeAt Go.RowKit Go.Proofs.YtlpginalgdbopaaW.PrintWords
open Go.ChangeMaps (open_string shut_string)
set_option linter.unusedVariables false
theorem own : ownKnob Try.prog.godebug = none := by kernel_rfl
theorem laidOut : laidOutB Try.prog = true := by kernel_rfl
set_option maxRecDepth 100000 in
set_option maxHeartbeats 4000000 in
theorem lifted (os : Os) (started : os.Started) (H : Type) (enc : TypeId × Value → H) :
   ReturnsInHanded {} Try.checked os 14 .any (Rows.fnExactAddCellSpec.pre6 enc Try.prog Try.f14 Rows.fnExactAddCellRow.domain false) (Rows.fnExactAddCellSpec.post enc Try.prog Try.f14 false true false false) := by
 refine returnsInHanded_of_change_sized (C := Try.checked) own started (by kernel_rfl) Try.func14
   (ChangeSpec.witness6 (enc := enc) (C := Try.checked) false ⟨#[], #[.agg #[.slice none 0 0, .slice none 0 0], .agg #[.slice none 0 0, .int .i64 0], .agg #[.slice none 0 0, .slice none 0 0]], []⟩ 8 (by kernel_rfl) (by kernel_rfl) (by kernel_rfl) (by kernel_rfl)) ?_
 intro W base args ds gs before hval0 hW hcnd hsz0 _
 have hsz : (DataW.weightsEach Try.prog (Try.f14.params.toList ++ Rows.fnExactAddCellSpec.plain.varTypes Try.prog) (ds ++ gs)).all (· ≤ reachBytes) = true := hsz0
 have hval : ∀ (j : Nat) t v, Try.f14.params[j]? = some t → args[j]? = some v → Value.okWide Try.prog W .any base t v := hval0
 have hW' := hW
 obtain ⟨p, q, hA0, hV, rfl, hfz, hnd⟩ := hW
 have hA : DataW.TrodAll enc Try.prog W 0 (fun _ => true) true Try.f14.params.toList args.toList ds p := hA0
 rw [Try.params14] at hA hval hsz
 obtain ⟨v0, vs0, d0, ds0, p0, q0, hargs, rfl, rfl, h0, r0⟩ := trodAll_cons hA
 obtain ⟨v1, vs1, d1, ds1, p1, q1, rfl, rfl, rfl, h1, r1⟩ := trodAll_cons r0
 obtain ⟨v2, vs2, d2, ds2, p2, q2, rfl, rfl, rfl, h2, r2⟩ := trodAll_cons r1
 obtain ⟨rfl, rfl, rfl⟩ := trodAll_nil r2
 obtain rfl : args = #[v0, v1, v2] := by cases args; simp_all
 obtain ⟨rfl, rfl⟩ := trodVars_none hV
 obtain ⟨cs0, rfl, _⟩ := okWide_struct Try.underlying84 (hval 0 84 v0 rfl rfl)
 obtain ⟨L0, rfl⟩ : ∃ L : List Value, cs0 = L.toArray := ⟨cs0.toList, by simp⟩
 have kk0 := h0
 have lt0 : ∀ x ∈ p0, x.block < W.heap.size := by obtain ⟨m, hm⟩ := kk0; exact DataW.trod_lt m _ _ _ hm
 obtain ⟨x0, hK0, hG0⟩ : ∃ x, PFnExactAddCell.k84.K W x L0 ∧ PFnExactAddCell.okT84 x := by
   obtain ⟨fuel, hf⟩ := h0
   exact PFnExactAddCell.opensT84 (by simpa [Value.cells] using hf)
 obtain ⟨_, _, rfl, ⟨A0_0, c0_0, rfl, hc0_0, hr0_0⟩, ⟨A0_1, c0_1, rfl, hc0_1, hr0_1⟩⟩ := hK0
 obtain ⟨cs1, rfl, _⟩ := okWide_struct Try.underlying85 (hval 1 85 v1 rfl rfl)
 obtain ⟨L1, rfl⟩ : ∃ L : List Value, cs1 = L.toArray := ⟨cs1.toList, by simp⟩
 have kk1 := h1
 have lt1 : ∀ x ∈ p1, x.block < W.heap.size := by obtain ⟨m, hm⟩ := kk1; exact DataW.trod_lt m _ _ _ hm
 obtain ⟨x1, hK1, hG1⟩ : ∃ x, PFnExactAddCell.k85.K W x L1 ∧ PFnExactAddCell.okT85 x := by
   obtain ⟨fuel, hf⟩ := h1
   exact PFnExactAddCell.opensT85 (by simpa [Value.cells] using hf)
 obtain ⟨_, _, rfl, ⟨A1_0, c1_0, rfl, hc1_0, hr1_0⟩, rfl⟩ := hK1
 obtain ⟨cs2, rfl, _⟩ := okWide_struct Try.underlying98 (hval 2 98 v2 rfl rfl)
 obtain ⟨L2, rfl⟩ : ∃ L : List Value, cs2 = L.toArray := ⟨cs2.toList, by simp⟩
 have kk2 := h2
 have lt2 : ∀ x ∈ p2, x.block < W.heap.size := by obtain ⟨m, hm⟩ := kk2; exact DataW.trod_lt m _ _ _ hm
 obtain ⟨x2, hK2, hG2⟩ : ∃ x, PFnExactAddCell.k98.K W x L2 ∧ PFnExactAddCell.okT98 x := by
   obtain ⟨fuel, hf⟩ := h2
   exact PFnExactAddCell.opensT98 (by simpa [Value.cells] using hf)
 obtain ⟨_, _, rfl, ⟨A2_0, c2_0, rfl, hc2_0, hr2_0⟩, ⟨A2_1, c2_1, rfl, hc2_1, hr2_1⟩⟩ := hK2
 clear hA0 hval0 hsz0 hsz
 obtain ⟨k, h⟩ := Pure.FnExactAddCell x0 x1 x2 hG0 hG1 hG2
 refine (PFnExactAddCell.laws_FnExactAddCell.runs k x0 _ _ _ _ x1 _ _ x2 _ _ _ _ true W hr0_0 hc0_0 hr0_1 hc0_1 hr1_0 hc1_0 hr2_0 hc2_0 hr2_1 hc2_1 h).mono fun e W' ⟨he, bel⟩ => ?_
 subst he
 exact ⟨_, rfl, _, _, _, [], _, [], hW', trodAll_mk1 (shut_bool Try.underlying4 _), (trodAll_cons_mk (Below.trod laidOut (by kernel_rfl) (of_decide_eq_true (by kernel_rfl)) kk0 bel lt0) (trodAll_cons_mk (Below.trod laidOut (by kernel_rfl) (of_decide_eq_true (by kernel_rfl)) kk1 bel lt1) (trodAll_cons_mk (Below.trod laidOut (by kernel_rfl) (of_decide_eq_true (by kernel_rfl)) kk2 bel lt2) trodAll_mk0))), rfl, bel.frame _, fun h => by cases h⟩
theorem over : Rows.fnExactAddCellRow.holds Try.pinned (OpenSpec.ofChange Rows.fnExactAddCellSpec) :=
 OpenClaim.holds_of_wide 14 Try.f14 rfl rfl rfl rfl rfl rfl rfl ⟨rfl, rfl, rfl, rfl, rfl⟩ rfl rfl rfl rfl rfl (by kernel_rfl) Try.func14 (by kernel_rfl)
   (of_decide_eq_true (by kernel_rfl)) (by unfold Func.isWrapper; first | (rw [if_pos (by decide +kernel)]; kernel_rfl) | (rw [if_neg (by decide +kernel)]; exact ⟨rfl, rfl⟩))
   (fun os started H enc _ => lifted os started H enc)
theorem proved : Rows.FnExactAddCellSaid := over
#print axioms proved
end Go.Proofs.Ytlpginalgdbopaa.fnExactAddCell
namespace Go.Proofs.Ytlpginalgdbopaa
/-- The row, under a short name, for the claim. -/
theorem fnExactAddCell_holds : Rows.FnExactAddCellSaid := fnExactAddCell.proved
end Go.Proofs.Ytlpginalgdbopaa
