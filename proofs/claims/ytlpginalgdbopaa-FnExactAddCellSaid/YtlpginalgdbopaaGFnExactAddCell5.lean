/- Functions that the statement reaches, as Lean functions, and the proof that a call of each comes to just its answer; written by this claim's own program. No conditions. -/
import Derived.Test.YtlpginalgdbopaaGFnExactAddCell4
namespace Go.Proofs.Ytlpginalgdbopaa.PFnExactAddCell
open Try
open Go.RowKit Go.Proofs.YtlpginalgdbopaaW.PrintWords Go.Proofs.YtlpginalgdbopaaW.PrintLast Go.Proofs.YtlpginalgdbopaaW.PrintMore Go.Proofs.Ytlpginalgdbopaa.XW Go.Proofs.Ytlpginalgdbopaa.XOp Go.Proofs.Ytlpginalgdbopaa.XSt Go.Proofs.Ytlpginalgdbopaa.XDraw
set_option linter.unusedVariables false
set_option linter.unusedSimpArgs false
set_option maxHeartbeats 4000000
set_option maxRecDepth 20000
def okT3 (x : Int) : Prop := (Lit.int .i64 x).wf = true
theorem opensT3 : XOpen.Opens prog 3 kI okT3 := XOpen.opens_int underlying3
def okT22 (xs : List Int) : Prop := xs.length ≤ 9223372036854775807 ∧ ∀ x ∈ xs, okT3 x
theorem opensT22 : XOpen.Opens prog 22 kS3 okT22 := XOpen.opens_slice underlying22 (by kernel_rfl) opensT3
def okT164 (x : S164) : Prop := okT3 x.f0 ∧ okT22 x.f1
theorem opensT164 : XOpen.Opens prog 164 k164 okT164 := by
 intro H enc w base held fuel cs x h
 obtain ⟨xs, n, _, _, hl, hlen, hf⟩ := DataW.trod_struct underlying164 h
 obtain ⟨a0, p0⟩ := XOpen.part_field hlen hf 0 rfl (by kernel_rfl) opensT3
 obtain ⟨a1, p1⟩ := XOpen.part_field hlen hf 1 rfl (by kernel_rfl) opensT22
 obtain ⟨hk, hg⟩ := XOpen.part_all (XOpen.part_pair p0 p1 rfl) (hl.trans (by kernel_rfl))
 exact ⟨⟨a0, a1⟩, hk, hg⟩
def okT160 (xs : List S164) : Prop := xs.length ≤ 9223372036854775807 ∧ ∀ x ∈ xs, okT164 x
theorem opensT160 : XOpen.Opens prog 160 kS164 okT160 := XOpen.opens_slice underlying160 (by kernel_rfl) opensT164
def okT96 (xs : List (List S164)) : Prop := xs.length ≤ 9223372036854775807 ∧ ∀ x ∈ xs, okT160 x
theorem opensT96 : XOpen.Opens prog 96 kS160 okT96 := XOpen.opens_slice underlying96 (by kernel_rfl) opensT160
def okT98 (x : S98) : Prop := okT96 x.f0 ∧ okT96 x.f1
theorem opensT98 : XOpen.Opens prog 98 k98 okT98 := by
 intro H enc w base held fuel cs x h
 obtain ⟨xs, n, _, _, hl, hlen, hf⟩ := DataW.trod_struct underlying98 h
 obtain ⟨a0, p0⟩ := XOpen.part_field hlen hf 0 rfl (by kernel_rfl) opensT96
 obtain ⟨a1, p1⟩ := XOpen.part_field hlen hf 1 rfl (by kernel_rfl) opensT96
 obtain ⟨hk, hg⟩ := XOpen.part_all (XOpen.part_pair p0 p1 rfl) (hl.trans (by kernel_rfl))
 exact ⟨⟨a0, a1⟩, hk, hg⟩
def okT156 (xs : List S98) : Prop := xs.length ≤ 9223372036854775807 ∧ ∀ x ∈ xs, okT98 x
theorem opensT156 : XOpen.Opens prog 156 kS98 okT156 := XOpen.opens_slice underlying156 (by kernel_rfl) opensT98
def okT82 (xs : List (List S98)) : Prop := xs.length ≤ 9223372036854775807 ∧ ∀ x ∈ xs, okT156 x
theorem opensT82 : XOpen.Opens prog 82 kS156 okT82 := XOpen.opens_slice underlying82 (by kernel_rfl) opensT156
def okT84 (x : S84) : Prop := okT22 x.f0 ∧ okT82 x.f1
theorem opensT84 : XOpen.Opens prog 84 k84 okT84 := by
 intro H enc w base held fuel cs x h
 obtain ⟨xs, n, _, _, hl, hlen, hf⟩ := DataW.trod_struct underlying84 h
 obtain ⟨a0, p0⟩ := XOpen.part_field hlen hf 0 rfl (by kernel_rfl) opensT22
 obtain ⟨a1, p1⟩ := XOpen.part_field hlen hf 1 rfl (by kernel_rfl) opensT82
 obtain ⟨hk, hg⟩ := XOpen.part_all (XOpen.part_pair p0 p1 rfl) (hl.trans (by kernel_rfl))
 exact ⟨⟨a0, a1⟩, hk, hg⟩
def okT85 (x : S85) : Prop := okT22 x.f0 ∧ okT3 x.f1
theorem opensT85 : XOpen.Opens prog 85 k85 okT85 := by
 intro H enc w base held fuel cs x h
 obtain ⟨xs, n, _, _, hl, hlen, hf⟩ := DataW.trod_struct underlying85 h
 obtain ⟨a0, p0⟩ := XOpen.part_field hlen hf 0 rfl (by kernel_rfl) opensT22
 obtain ⟨a1, p1⟩ := XOpen.part_field hlen hf 1 rfl (by kernel_rfl) opensT3
 obtain ⟨hk, hg⟩ := XOpen.part_all (XOpen.part_pair p0 p1 rfl) (hl.trans (by kernel_rfl))
 exact ⟨⟨a0, a1⟩, hk, hg⟩
def laws_FnExactAddCell.Pure : Prop := ∀ (x0 : S84) (x1 : S85) (x2 : S98), okT84 x0 → okT85 x1 → okT98 x2 → ∃ k, laws_FnExactAddCell.g k x0 x1 x2 = some true
end Go.Proofs.Ytlpginalgdbopaa.PFnExactAddCell
