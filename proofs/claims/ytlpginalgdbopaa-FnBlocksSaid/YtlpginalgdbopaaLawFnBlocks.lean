/- The row: the law answers true, and changes nothing that was there. No conditions. -/
import Derived.Test.YtlpginalgdbopaaRows
import Derived.Test.YtlpginalgdbopaaGFnBlocks4
import Derived.Test.YtlpginalgdbopaaPureFnBlocks
import Derived.WalkKit
import Derived.ProofKit
import Derived.OpenShut
import Derived.ShutString
import Derived.ChangeOld
import Derived.Below
import Derived.SizedLaws
namespace Go.Proofs.Ytlpginalgdbopaa.fnBlocks
open Go.ChangeShapes Go.WideShapes Go.ChangeAt Go.RowKit Go.Proofs.YtlpginalgdbopaaW.PrintWords
open Go.ChangeMaps (open_string shut_string)
set_option linter.unusedVariables false
theorem own : ownKnob Try.prog.godebug = none := by kernel_rfl
theorem laidOut : laidOutB Try.prog = true := by kernel_rfl
set_option maxRecDepth 100000 in
set_option maxHeartbeats 4000000 in
theorem lifted (os : Os) (started : os.Started) (H : Type) (enc : TypeId × Value → H) :
   ReturnsInHanded {} Try.checked os 9 .any (Rows.fnBlocksSpec.pre6 enc Try.prog Try.f9 Rows.fnBlocksRow.domain false) (Rows.fnBlocksSpec.post enc Try.prog Try.f9 false true false false) := by
 refine returnsInHanded_of_change_sized (C := Try.checked) own started (by kernel_rfl) Try.func9
   (ChangeSpec.witness6 (enc := enc) (C := Try.checked) false ⟨#[], #[.slice none 0 0], []⟩ 8 (by kernel_rfl) (by kernel_rfl) (by kernel_rfl) (by kernel_rfl)) ?_
 intro W base args ds gs before hval0 hW hcnd hsz0 _
 have hsz : (DataW.weightsEach Try.prog (Try.f9.params.toList ++ Rows.fnBlocksSpec.plain.varTypes Try.prog) (ds ++ gs)).all (· ≤ reachBytes) = true := hsz0
 have hval : ∀ (j : Nat) t v, Try.f9.params[j]? = some t → args[j]? = some v → Value.okWide Try.prog W .any base t v := hval0
 have hW' := hW
 obtain ⟨p, q, hA0, hV, rfl, hfz, hnd⟩ := hW
 have hA : DataW.TrodAll enc Try.prog W 0 (fun _ => true) true Try.f9.params.toList args.toList ds p := hA0
 rw [Try.params9] at hA hval hsz
 obtain ⟨v0, vs0, d0, ds0, p0, q0, hargs, rfl, rfl, h0, r0⟩ := trodAll_cons hA
 obtain ⟨rfl, rfl, rfl⟩ := trodAll_nil r0
 obtain rfl : args = #[v0] := by cases args; simp_all
 obtain ⟨rfl, rfl⟩ := trodVars_none hV
 obtain ⟨a0, len0, cap0, rfl⟩ := okWide_slice Try.underlying48 (hval 0 48 v0 rfl rfl)
 have kk0 := h0
 have lt0 : ∀ x ∈ p0, x.block < W.heap.size := by obtain ⟨m, hm⟩ := kk0; exact DataW.trod_lt m _ _ _ hm
 obtain ⟨l0, hK0, hG0⟩ : ∃ x, (Kd.slice 5 (Kd.int .u8)).K W x [.slice a0 len0 cap0] ∧ PFnBlocks.okT48 x := by
   obtain ⟨fuel, hf⟩ := h0
   exact PFnBlocks.opensT48 hf
 obtain ⟨A0, c0, hcs0, hc0, hr0⟩ := hK0
 simp only [List.cons.injEq, Value.slice.injEq, and_true] at hcs0
 obtain ⟨rfl, rfl, rfl⟩ := hcs0
 clear hA0 hval0 hsz0 hsz
 obtain ⟨k, h⟩ := Pure.FnBlocks l0 hG0
 refine (PFnBlocks.laws_FnBlocks.runs k _ _ l0 true W hr0 hc0 h).mono fun e W' ⟨he, bel⟩ => ?_
 subst he
 exact ⟨_, rfl, _, _, _, [], _, [], hW', trodAll_mk1 (shut_bool Try.underlying4 _), (trodAll_cons_mk (Below.trod laidOut (by kernel_rfl) (of_decide_eq_true (by kernel_rfl)) kk0 bel lt0) trodAll_mk0), rfl, bel.frame _, fun h => by cases h⟩
theorem over : Rows.fnBlocksRow.holds Try.pinned (OpenSpec.ofChange Rows.fnBlocksSpec) :=
 OpenClaim.holds_of_wide 9 Try.f9 rfl rfl rfl rfl rfl rfl rfl ⟨rfl, rfl, rfl, rfl, rfl⟩ rfl rfl rfl rfl rfl (by kernel_rfl) Try.func9 (by kernel_rfl)
   (of_decide_eq_true (by kernel_rfl)) (by unfold Func.isWrapper; first | (rw [if_pos (by decide +kernel)]; kernel_rfl) | (rw [if_neg (by decide +kernel)]; exact ⟨rfl, rfl⟩))
   (fun os started H enc _ => lifted os started H enc)
theorem proved : Rows.FnBlocksSaid := over
#print axioms proved
end Go.Proofs.Ytlpginalgdbopaa.fnBlocks
namespace Go.Proofs.Ytlpginalgdbopaa
/-- The row, under a short name, for the claim. -/
theorem fnBlocks_holds : Rows.FnBlocksSaid := fnBlocks.proved
end Go.Proofs.Ytlpginalgdbopaa
