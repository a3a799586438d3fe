/- Functions that the statement reaches, as Lean functions, and the proof that a call of each comes to just its answer; written by this claim's own program. No conditions. -/
import Derived.Test.YtacbkcofcbglhaaGFnExactBudgetOf3
namespace Go.Proofs.Ytacbkcofcbglhaa.PFnExactBudgetOf
open Go.RowKit Go.Proofs.YtacbkcofcbglhaaW.PrintWords Go.Proofs.YtacbkcofcbglhaaW.PrintLast Go.Proofs.YtacbkcofcbglhaaW.PrintMore Go.Proofs.Ytacbkcofcbglhaa.XW Go.Proofs.Ytacbkcofcbglhaa.XOp Go.Proofs.Ytacbkcofcbglhaa.XSt Go.Proofs.Ytacbkcofcbglhaa.XDraw
set_option linter.unusedVariables false
set_option linter.unusedSimpArgs false
theorem opensT44 : XOpen.Opens Try.prog 44 k44 okT44 := by
  intro H enc w base held fuel cs x h
  obtain ⟨xs, n, _, _, hl, hlen, hf⟩ := DataW.trod_struct Try.underlying44 h
  obtain ⟨a0, p0⟩ := XOpen.part_field hlen hf 0 rfl (by kernel_rfl) opensT25
  obtain ⟨a1, p1⟩ := XOpen.part_field hlen hf 1 rfl (by kernel_rfl) opensT27
  obtain ⟨a2, p2⟩ := XOpen.part_field hlen hf 2 rfl (by kernel_rfl) opensT27
  obtain ⟨a3, p3⟩ := XOpen.part_field hlen hf 3 rfl (by kernel_rfl) opensT27
  obtain ⟨a4, p4⟩ := XOpen.part_field hlen hf 4 rfl (by kernel_rfl) opensT27
  obtain ⟨a5, p5⟩ := XOpen.part_field hlen hf 5 rfl (by kernel_rfl) opensT25
  obtain ⟨a6, p6⟩ := XOpen.part_field hlen hf 6 rfl (by kernel_rfl) opensT27
  obtain ⟨a7, p7⟩ := XOpen.part_field hlen hf 7 rfl (by kernel_rfl) opensT27
  obtain ⟨hk, hg⟩ := XOpen.part_all (XOpen.part_pair p0 (XOpen.part_pair p1 (XOpen.part_pair p2 (XOpen.part_pair p3 (XOpen.part_pair p4 (XOpen.part_pair p5 (XOpen.part_pair p6 p7 rfl) rfl) rfl) rfl) rfl) rfl) rfl) (hl.trans (by kernel_rfl))
  exact ⟨⟨a0, a1, a2, a3, a4, a5, a6, a7⟩, hk, hg⟩
def okT24 (xs : List S44) : Prop := xs.length ≤ 9223372036854775807 ∧ ∀ x ∈ xs, okT44 x
theorem opensT24 : XOpen.Opens Try.prog 24 (Kd.slice 44 k44) okT24 := XOpen.opens_slice Try.underlying24 (by kernel_rfl) opensT44
def okT29 (x : S29) : Prop := okT23 x.f0 ∧ okT23 x.f1
theorem opensT29 : XOpen.Opens Try.prog 29 k29 okT29 := by
  intro H enc w base held fuel cs x h
  obtain ⟨xs, n, _, _, hl, hlen, hf⟩ := DataW.trod_struct Try.underlying29 h
  obtain ⟨a0, p0⟩ := XOpen.part_field hlen hf 0 rfl (by kernel_rfl) opensT23
  obtain ⟨a1, p1⟩ := XOpen.part_field hlen hf 1 rfl (by kernel_rfl) opensT23
  obtain ⟨hk, hg⟩ := XOpen.part_all (XOpen.part_pair p0 p1 rfl) (hl.trans (by kernel_rfl))
  exact ⟨⟨a0, a1⟩, hk, hg⟩
def okT31 (x : S31) : Prop := okT3 x.f0 ∧ okT3 x.f1 ∧ okT3 x.f2 ∧ okT22 x.f3 ∧ okT23 x.f4 ∧ okT24 x.f5 ∧ okT25 x.f6 ∧ okT27 x.f7 ∧ okT29 x.f8
theorem opensT31 : XOpen.Opens Try.prog 31 k31 okT31 := by
  intro H enc w base held fuel cs x h
  obtain ⟨xs, n, _, _, hl, hlen, hf⟩ := DataW.trod_struct Try.underlying31 h
  obtain ⟨a0, p0⟩ := XOpen.part_field hlen hf 0 rfl (by kernel_rfl) opensT3
  obtain ⟨a1, p1⟩ := XOpen.part_field hlen hf 1 rfl (by kernel_rfl) opensT3
  obtain ⟨a2, p2⟩ := XOpen.part_field hlen hf 2 rfl (by kernel_rfl) opensT3
  obtain ⟨a3, p3⟩ := XOpen.part_field hlen hf 3 rfl (by kernel_rfl) opensT22
  obtain ⟨a4, p4⟩ := XOpen.part_field hlen hf 4 rfl (by kernel_rfl) opensT23
  obtain ⟨a5, p5⟩ := XOpen.part_field hlen hf 5 rfl (by kernel_rfl) opensT24
  obtain ⟨a6, p6⟩ := XOpen.part_field hlen hf 6 rfl (by kernel_rfl) opensT25
  obtain ⟨a7, p7⟩ := XOpen.part_field hlen hf 7 rfl (by kernel_rfl) opensT27
  obtain ⟨a8, p8⟩ := XOpen.part_field hlen hf 8 rfl (by kernel_rfl) opensT29
  obtain ⟨hk, hg⟩ := XOpen.part_all (XOpen.part_pair p0 (XOpen.part_pair p1 (XOpen.part_pair p2 (XOpen.part_pair p3 (XOpen.part_pair p4 (XOpen.part_pair p5 (XOpen.part_pair p6 (XOpen.part_pair p7 p8 rfl) rfl) rfl) rfl) rfl) rfl) rfl) rfl) (hl.trans (by kernel_rfl))
  exact ⟨⟨a0, a1, a2, a3, a4, a5, a6, a7, a8⟩, hk, hg⟩
/-- THE ONE PURE STATEMENT of laws_FnExactBudgetOf. -/
def laws_FnExactBudgetOf.Pure : Prop := ∀ (x0 : S31), okT31 x0 → ∃ k, laws_FnExactBudgetOf.g k x0 = some true
end Go.Proofs.Ytacbkcofcbglhaa.PFnExactBudgetOf
