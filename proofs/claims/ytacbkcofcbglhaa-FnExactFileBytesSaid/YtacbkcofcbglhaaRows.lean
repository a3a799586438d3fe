/-
  No cell of these rows narrows 'for every input' (looked for: loops, veiled, ifaces, maps, wideKeys, modest, calm, conditions, laid).
  DERIVED. THE GIVEN ROWS OF THIS SEAT. 11 by the template 'for every input the law returns true; each argument reads behind the call as it read before'; 0 by the template 'total and deterministic' (their statements: YtacbkcofcbglhaaTotals.lean).
  GIVEN WITH THE SEED: the statements are not yours to turn. If you find one false, say at which input.
  Laid BY PROGRAM, IN A SANDBOX (cutbox-rows.mjs): the forced cells as the released guide's own fill.sh prints them over the translation 2376f3c8f529488e… (all of the seat's roots in one cut). By AI agents, Wed Nov 11 2026. No macro, syntax, notation, axiom, sorry.
-/
import Derived.Test.YtacbkcofcbglhaaChecked
import GoSem.Claim
import GoSem.ClaimJoined
import GoSem.ClaimMapViews
import Derived.JoinedTies
import Derived.KernelRfl
namespace Go.Proofs.Ytacbkcofcbglhaa
/- THE CELL 'sum', in the pinned program and in every row, IS THE sha256 OF THE DUMP (.gsa) THAT YtacbkcofcbglhaaProg.lean LOADS. Nothing in Lean hashes anything: it is a label: what it is worth is what the hold of that sum in a sandbox is worth. -/
noncomputable def Try.pinned : Pinned := { name := "ytacbkcofcbglhaa", sum := "2376f3c8f529488e0aaa195007496e221f2791f2961cee2ae0b5aa69b2ec059b", checked := Try.checked }
namespace Rows
def none {H : Type} : Left H := { results := [], args := [] }

/-- 'laws.FnExactVocab': WHATEVER THE INPUT: true; the input reads as it did. -/
def fnExactVocabSpec : ChangeSpec := { name := "fnExactVocab", fn := fun _ => fun
  | [d] => { results := [.lit (.bool true)], args := [d] }
  | _ => none }
def fnExactVocabRow : OpenClaim := { program := "ytacbkcofcbglhaa", sum := "2376f3c8f529488e0aaa195007496e221f2791f2961cee2ae0b5aa69b2ec059b", func := "loop.example/g00112/laws.FnExactVocab", spec := "fnExactVocab", apart := false }
def FnExactVocabSaid : Prop := fnExactVocabRow.holds Try.pinned (OpenSpec.ofChange fnExactVocabSpec)

/-- ITS FALSE NEIGHBOUR: 'it returns false'. Refute it at one input. -/
def fnExactVocabWrong : ChangeSpec := { name := "fnExactVocab", fn := fun _ => fun
  | [d] => { results := [.lit (.bool false)], args := [d] }
  | _ => none }
def FnExactVocabWrongFalsely : Prop := fnExactVocabRow.holds Try.pinned (OpenSpec.ofChange fnExactVocabWrong)

/-- 'laws.FnExactLayerOk': WHATEVER THE INPUT: true; the input reads as it did. -/
def fnExactLayerOkSpec : ChangeSpec := { name := "fnExactLayerOk", fn := fun _ => fun
  | [d1, d2] => { results := [.lit (.bool true)], args := [d1, d2] }
  | _ => none }
def fnExactLayerOkRow : OpenClaim := { program := "ytacbkcofcbglhaa", sum := "2376f3c8f529488e0aaa195007496e221f2791f2961cee2ae0b5aa69b2ec059b", func := "loop.example/g00112/laws.FnExactLayerOk", spec := "fnExactLayerOk", unfollowed := true, recurses := true, apart := false }
def FnExactLayerOkSaid : Prop := fnExactLayerOkRow.holds Try.pinned (OpenSpec.ofChange fnExactLayerOkSpec)

/-- ITS FALSE NEIGHBOUR: 'it returns false'. Refute it at one input. -/
def fnExactLayerOkWrong : ChangeSpec := { name := "fnExactLayerOk", fn := fun _ => fun
  | [d1, d2] => { results := [.lit (.bool false)], args := [d1, d2] }
  | _ => none }
def FnExactLayerOkWrongFalsely : Prop := fnExactLayerOkRow.holds Try.pinned (OpenSpec.ofChange fnExactLayerOkWrong)

/-- 'laws.FnExactModelOk': WHATEVER THE INPUT: true; the input reads as it did. -/
def fnExactModelOkSpec : ChangeSpec := { name := "fnExactModelOk", fn := fun _ => fun
  | [d] => { results := [.lit (.bool true)], args := [d] }
  | _ => none }
def fnExactModelOkRow : OpenClaim := { program := "ytacbkcofcbglhaa", sum := "2376f3c8f529488e0aaa195007496e221f2791f2961cee2ae0b5aa69b2ec059b", func := "loop.example/g00112/laws.FnExactModelOk", spec := "fnExactModelOk", unfollowed := true, recurses := true, apart := false }
def FnExactModelOkSaid : Prop := fnExactModelOkRow.holds Try.pinned (OpenSpec.ofChange fnExactModelOkSpec)

/-- ITS FALSE NEIGHBOUR: 'it returns false'. Refute it at one input. -/
def fnExactModelOkWrong : ChangeSpec := { name := "fnExactModelOk", fn := fun _ => fun
  | [d] => { results := [.lit (.bool false)], args := [d] }
  | _ => none }
def FnExactModelOkWrongFalsely : Prop := fnExactModelOkRow.holds Try.pinned (OpenSpec.ofChange fnExactModelOkWrong)

/-- 'laws.FnModels': WHATEVER THE INPUT: true; the input reads as it did. -/
def fnModelsSpec : ChangeSpec := { name := "fnModels", fn := fun _ => fun
  | [d] => { results := [.lit (.bool true)], args := [d] }
  | _ => none }
def fnModelsRow : OpenClaim := { program := "ytacbkcofcbglhaa", sum := "2376f3c8f529488e0aaa195007496e221f2791f2961cee2ae0b5aa69b2ec059b", func := "loop.example/g00112/laws.FnModels", spec := "fnModels", unfollowed := true, recurses := true, apart := false }
def FnModelsSaid : Prop := fnModelsRow.holds Try.pinned (OpenSpec.ofChange fnModelsSpec)

/-- ITS FALSE NEIGHBOUR: 'it returns false'. Refute it at one input. -/
def fnModelsWrong : ChangeSpec := { name := "fnModels", fn := fun _ => fun
  | [d] => { results := [.lit (.bool false)], args := [d] }
  | _ => none }
def FnModelsWrongFalsely : Prop := fnModelsRow.holds Try.pinned (OpenSpec.ofChange fnModelsWrong)

/-- 'laws.FnBudget': WHATEVER THE INPUT: true; the input reads as it did. -/
def fnBudgetSpec : ChangeSpec := { name := "fnBudget", fn := fun _ => fun
  | [d] => { results := [.lit (.bool true)], args := [d] }
  | _ => none }
def fnBudgetRow : OpenClaim := { program := "ytacbkcofcbglhaa", sum := "2376f3c8f529488e0aaa195007496e221f2791f2961cee2ae0b5aa69b2ec059b", func := "loop.example/g00112/laws.FnBudget", spec := "fnBudget", unfollowed := true, recurses := true, apart := false }
def FnBudgetSaid : Prop := fnBudgetRow.holds Try.pinned (OpenSpec.ofChange fnBudgetSpec)

/-- ITS FALSE NEIGHBOUR: 'it returns false'. Refute it at one input. -/
def fnBudgetWrong : ChangeSpec := { name := "fnBudget", fn := fun _ => fun
  | [d] => { results := [.lit (.bool false)], args := [d] }
  | _ => none }
def FnBudgetWrongFalsely : Prop := fnBudgetRow.holds Try.pinned (OpenSpec.ofChange fnBudgetWrong)

/-- 'laws.FnExtremes': WHATEVER THE INPUT: true; the input reads as it did. -/
def fnExtremesSpec : ChangeSpec := { name := "fnExtremes", fn := fun _ => fun
  | [d] => { results := [.lit (.bool true)], args := [d] }
  | _ => none }
def fnExtremesRow : OpenClaim := { program := "ytacbkcofcbglhaa", sum := "2376f3c8f529488e0aaa195007496e221f2791f2961cee2ae0b5aa69b2ec059b", func := "loop.example/g00112/laws.FnExtremes", spec := "fnExtremes", unfollowed := true, recurses := true, apart := false }
def FnExtremesSaid : Prop := fnExtremesRow.holds Try.pinned (OpenSpec.ofChange fnExtremesSpec)

/-- ITS FALSE NEIGHBOUR: 'it returns false'. Refute it at one input. -/
def fnExtremesWrong : ChangeSpec := { name := "fnExtremes", fn := fun _ => fun
  | [d] => { results := [.lit (.bool false)], args := [d] }
  | _ => none }
def FnExtremesWrongFalsely : Prop := fnExtremesRow.holds Try.pinned (OpenSpec.ofChange fnExtremesWrong)

/-- 'laws.FnExactWeights': WHATEVER THE INPUT: true; the input reads as it did. -/
def fnExactWeightsSpec : ChangeSpec := { name := "fnExactWeights", fn := fun _ => fun
  | [d] => { results := [.lit (.bool true)], args := [d] }
  | _ => none }
def fnExactWeightsRow : OpenClaim := { program := "ytacbkcofcbglhaa", sum := "2376f3c8f529488e0aaa195007496e221f2791f2961cee2ae0b5aa69b2ec059b", func := "loop.example/g00112/laws.FnExactWeights", spec := "fnExactWeights", unfollowed := true, recurses := true, apart := false }
def FnExactWeightsSaid : Prop := fnExactWeightsRow.holds Try.pinned (OpenSpec.ofChange fnExactWeightsSpec)

/-- ITS FALSE NEIGHBOUR: 'it returns false'. Refute it at one input. -/
def fnExactWeightsWrong : ChangeSpec := { name := "fnExactWeights", fn := fun _ => fun
  | [d] => { results := [.lit (.bool false)], args := [d] }
  | _ => none }
def FnExactWeightsWrongFalsely : Prop := fnExactWeightsRow.holds Try.pinned (OpenSpec.ofChange fnExactWeightsWrong)

/-- 'laws.FnExactBudgetOf': WHATEVER THE INPUT: true; the input reads as it did. -/
def fnExactBudgetOfSpec : ChangeSpec := { name := "fnExactBudgetOf", fn := fun _ => fun
  | [d] => { results := [.lit (.bool true)], args := [d] }
  | _ => none }
def fnExactBudgetOfRow : OpenClaim := { program := "ytacbkcofcbglhaa", sum := "2376f3c8f529488e0aaa195007496e221f2791f2961cee2ae0b5aa69b2ec059b", func := "loop.example/g00112/laws.FnExactBudgetOf", spec := "fnExactBudgetOf", unfollowed := true, recurses := true, apart := false }
def FnExactBudgetOfSaid : Prop := fnExactBudgetOfRow.holds Try.pinned (OpenSpec.ofChange fnExactBudgetOfSpec)

/-- ITS FALSE NEIGHBOUR: 'it returns false'. Refute it at one input. -/
def fnExactBudgetOfWrong : ChangeSpec := { name := "fnExactBudgetOf", fn := fun _ => fun
  | [d] => { results := [.lit (.bool false)], args := [d] }
  | _ => none }
def FnExactBudgetOfWrongFalsely : Prop := fnExactBudgetOfRow.holds Try.pinned (OpenSpec.ofChange fnExactBudgetOfWrong)

/-- 'laws.FnExactModelText': WHATEVER THE INPUT: true; the input reads as it did. -/
def fnExactModelTextSpec : ChangeSpec := { name := "fnExactModelText", fn := fun _ => fun
  | [d] => { results := [.lit (.bool true)], args := [d] }
  | _ => none }
def fnExactModelTextRow : OpenClaim := { program := "ytacbkcofcbglhaa", sum := "2376f3c8f529488e0aaa195007496e221f2791f2961cee2ae0b5aa69b2ec059b", func := "loop.example/g00112/laws.FnExactModelText", spec := "fnExactModelText", unfollowed := true, recurses := true, apart := false }
def FnExactModelTextSaid : Prop := fnExactModelTextRow.holds Try.pinned (OpenSpec.ofChange fnExactModelTextSpec)

/-- ITS FALSE NEIGHBOUR: 'it returns false'. Refute it at one input. -/
def fnExactModelTextWrong : ChangeSpec := { name := "fnExactModelText", fn := fun _ => fun
  | [d] => { results := [.lit (.bool false)], args := [d] }
  | _ => none }
def FnExactModelTextWrongFalsely : Prop := fnExactModelTextRow.holds Try.pinned (OpenSpec.ofChange fnExactModelTextWrong)

/-- 'laws.FnExactFileBytes': WHATEVER THE INPUT: true; the input reads as it did. -/
def fnExactFileBytesSpec : ChangeSpec := { name := "fnExactFileBytes", fn := fun _ => fun
  | [d] => { results := [.lit (.bool true)], args := [d] }
  | _ => none }
def fnExactFileBytesRow : OpenClaim := { program := "ytacbkcofcbglhaa", sum := "2376f3c8f529488e0aaa195007496e221f2791f2961cee2ae0b5aa69b2ec059b", func := "loop.example/g00112/laws.FnExactFileBytes", spec := "fnExactFileBytes", unfollowed := true, recurses := true, apart := false }
def FnExactFileBytesSaid : Prop := fnExactFileBytesRow.holds Try.pinned (OpenSpec.ofChange fnExactFileBytesSpec)

/-- ITS FALSE NEIGHBOUR: 'it returns false'. Refute it at one input. -/
def fnExactFileBytesWrong : ChangeSpec := { name := "fnExactFileBytes", fn := fun _ => fun
  | [d] => { results := [.lit (.bool false)], args := [d] }
  | _ => none }
def FnExactFileBytesWrongFalsely : Prop := fnExactFileBytesRow.holds Try.pinned (OpenSpec.ofChange fnExactFileBytesWrong)

/-- 'laws.FnExactExtreme': WHATEVER THE INPUT: true; the input reads as it did. -/
def fnExactExtremeSpec : ChangeSpec := { name := "fnExactExtreme", fn := fun _ => fun
  | [d1, d2, d3, d4, d5] => { results := [.lit (.bool true)], args := [d1, d2, d3, d4, d5] }
  | _ => none }
def fnExactExtremeRow : OpenClaim := { program := "ytacbkcofcbglhaa", sum := "2376f3c8f529488e0aaa195007496e221f2791f2961cee2ae0b5aa69b2ec059b", func := "loop.example/g00112/laws.FnExactExtreme", spec := "fnExactExtreme", unfollowed := true, recurses := true, apart := false }
def FnExactExtremeSaid : Prop := fnExactExtremeRow.holds Try.pinned (OpenSpec.ofChange fnExactExtremeSpec)

/-- ITS FALSE NEIGHBOUR: 'it returns false'. Refute it at one input. -/
def fnExactExtremeWrong : ChangeSpec := { name := "fnExactExtreme", fn := fun _ => fun
  | [d1, d2, d3, d4, d5] => { results := [.lit (.bool false)], args := [d1, d2, d3, d4, d5] }
  | _ => none }
def FnExactExtremeWrongFalsely : Prop := fnExactExtremeRow.holds Try.pinned (OpenSpec.ofChange fnExactExtremeWrong)

/- THE SECOND FORM. 'bulk': how many values and letters a reading holds, each counted each time it is reached (what is shared counts as often as it is met; a slice's spare places count too). A statement '..UptoSaid' is the law's where the arguments, and the package variables that the reading takes, are together of bulk at most 1048576: NARROWER than '..Said'. Prove '..Said' where nothing that the law and all that it calls make is longer than what came in: it says more and counts as full. Else prove '..UptoSaid'. A law counts once. -/
mutual
def uptoBulk {H : Type} : DataW H → Nat
  | .lit (.string bytes) => bytes.length + 1
  | .lit _ => 1
  | .nil => 1
  | .ptr d => uptoBulk d + 1
  | .slice elems spare => uptoBulkAll elems + uptoBulkAll spare + 1
  | .agg parts => uptoBulkAll parts + 1
  | .iface _ d => uptoBulk d + 1
  | .map entries => uptoBulkEntries entries + 1
  | .held _ => 1
def uptoBulkAll {H : Type} : List (DataW H) → Nat
  | [] => 0
  | d :: r => uptoBulk d + uptoBulkAll r
def uptoBulkEntries {H : Type} : List (Lit × DataW H) → Nat
  | [] => 0
  | x :: r => uptoBulkEntry x + uptoBulkEntries r
def uptoBulkEntry {H : Type} : Lit × DataW H → Nat
  | (.string bytes, d) => bytes.length + uptoBulk d + 1
  | (_, d) => uptoBulk d + 1
 end
def uptoSmall : (H : Type) → List (DataW H) → Bool := fun _ ds => decide (uptoBulkAll ds ≤ 1048576)
def OpenSpec.upto (s : _root_.Go.ChangeSpec) : _root_.Go.OpenSpec := { _root_.Go.OpenSpec.ofChange s with cond := some uptoSmall }

/-- 'laws.FnExactVocab', WHERE WHAT IT READS IS OF BULK AT MOST 1048576: true; the input reads as it did. -/
def fnExactVocabUptoRow : OpenClaim := { program := "ytacbkcofcbglhaa", sum := "2376f3c8f529488e0aaa195007496e221f2791f2961cee2ae0b5aa69b2ec059b", func := "loop.example/g00112/laws.FnExactVocab", spec := "fnExactVocab", apart := false, narrowed := true }
def FnExactVocabUptoSaid : Prop := fnExactVocabUptoRow.holds Try.pinned (OpenSpec.upto fnExactVocabSpec)

/-- 'laws.FnExactLayerOk', WHERE WHAT IT READS IS OF BULK AT MOST 1048576: true; the input reads as it did. -/
def fnExactLayerOkUptoRow : OpenClaim := { program := "ytacbkcofcbglhaa", sum := "2376f3c8f529488e0aaa195007496e221f2791f2961cee2ae0b5aa69b2ec059b", func := "loop.example/g00112/laws.FnExactLayerOk", spec := "fnExactLayerOk", unfollowed := true, recurses := true, apart := false, narrowed := true }
def FnExactLayerOkUptoSaid : Prop := fnExactLayerOkUptoRow.holds Try.pinned (OpenSpec.upto fnExactLayerOkSpec)

/-- 'laws.FnExactModelOk', WHERE WHAT IT READS IS OF BULK AT MOST 1048576: true; the input reads as it did. -/
def fnExactModelOkUptoRow : OpenClaim := { program := "ytacbkcofcbglhaa", sum := "2376f3c8f529488e0aaa195007496e221f2791f2961cee2ae0b5aa69b2ec059b", func := "loop.example/g00112/laws.FnExactModelOk", spec := "fnExactModelOk", unfollowed := true, recurses := true, apart := false, narrowed := true }
def FnExactModelOkUptoSaid : Prop := fnExactModelOkUptoRow.holds Try.pinned (OpenSpec.upto fnExactModelOkSpec)

/-- 'laws.FnModels', WHERE WHAT IT READS IS OF BULK AT MOST 1048576: true; the input reads as it did. -/
def fnModelsUptoRow : OpenClaim := { program := "ytacbkcofcbglhaa", sum := "2376f3c8f529488e0aaa195007496e221f2791f2961cee2ae0b5aa69b2ec059b", func := "loop.example/g00112/laws.FnModels", spec := "fnModels", unfollowed := true, recurses := true, apart := false, narrowed := true }
def FnModelsUptoSaid : Prop := fnModelsUptoRow.holds Try.pinned (OpenSpec.upto fnModelsSpec)

/-- 'laws.FnBudget', WHERE WHAT IT READS IS OF BULK AT MOST 1048576: true; the input reads as it did. -/
def fnBudgetUptoRow : OpenClaim := { program := "ytacbkcofcbglhaa", sum := "2376f3c8f529488e0aaa195007496e221f2791f2961cee2ae0b5aa69b2ec059b", func := "loop.example/g00112/laws.FnBudget", spec := "fnBudget", unfollowed := true, recurses := true, apart := false, narrowed := true }
def FnBudgetUptoSaid : Prop := fnBudgetUptoRow.holds Try.pinned (OpenSpec.upto fnBudgetSpec)

/-- 'laws.FnExtremes', WHERE WHAT IT READS IS OF BULK AT MOST 1048576: true; the input reads as it did. -/
def fnExtremesUptoRow : OpenClaim := { program := "ytacbkcofcbglhaa", sum := "2376f3c8f529488e0aaa195007496e221f2791f2961cee2ae0b5aa69b2ec059b", func := "loop.example/g00112/laws.FnExtremes", spec := "fnExtremes", unfollowed := true, recurses := true, apart := false, narrowed := true }
def FnExtremesUptoSaid : Prop := fnExtremesUptoRow.holds Try.pinned (OpenSpec.upto fnExtremesSpec)

/-- 'laws.FnExactWeights', WHERE WHAT IT READS IS OF BULK AT MOST 1048576: true; the input reads as it did. -/
def fnExactWeightsUptoRow : OpenClaim := { program := "ytacbkcofcbglhaa", sum := "2376f3c8f529488e0aaa195007496e221f2791f2961cee2ae0b5aa69b2ec059b", func := "loop.example/g00112/laws.FnExactWeights", spec := "fnExactWeights", unfollowed := true, recurses := true, apart := false, narrowed := true }
def FnExactWeightsUptoSaid : Prop := fnExactWeightsUptoRow.holds Try.pinned (OpenSpec.upto fnExactWeightsSpec)

/-- 'laws.FnExactBudgetOf', WHERE WHAT IT READS IS OF BULK AT MOST 1048576: true; the input reads as it did. -/
def fnExactBudgetOfUptoRow : OpenClaim := { program := "ytacbkcofcbglhaa", sum := "2376f3c8f529488e0aaa195007496e221f2791f2961cee2ae0b5aa69b2ec059b", func := "loop.example/g00112/laws.FnExactBudgetOf", spec := "fnExactBudgetOf", unfollowed := true, recurses := true, apart := false, narrowed := true }
def FnExactBudgetOfUptoSaid : Prop := fnExactBudgetOfUptoRow.holds Try.pinned (OpenSpec.upto fnExactBudgetOfSpec)

/-- 'laws.FnExactModelText', WHERE WHAT IT READS IS OF BULK AT MOST 1048576: true; the input reads as it did. -/
def fnExactModelTextUptoRow : OpenClaim := { program := "ytacbkcofcbglhaa", sum := "2376f3c8f529488e0aaa195007496e221f2791f2961cee2ae0b5aa69b2ec059b", func := "loop.example/g00112/laws.FnExactModelText", spec := "fnExactModelText", unfollowed := true, recurses := true, apart := false, narrowed := true }
def FnExactModelTextUptoSaid : Prop := fnExactModelTextUptoRow.holds Try.pinned (OpenSpec.upto fnExactModelTextSpec)

/-- 'laws.FnExactFileBytes', WHERE WHAT IT READS IS OF BULK AT MOST 1048576: true; the input reads as it did. -/
def fnExactFileBytesUptoRow : OpenClaim := { program := "ytacbkcofcbglhaa", sum := "2376f3c8f529488e0aaa195007496e221f2791f2961cee2ae0b5aa69b2ec059b", func := "loop.example/g00112/laws.FnExactFileBytes", spec := "fnExactFileBytes", unfollowed := true, recurses := true, apart := false, narrowed := true }
def FnExactFileBytesUptoSaid : Prop := fnExactFileBytesUptoRow.holds Try.pinned (OpenSpec.upto fnExactFileBytesSpec)

/-- 'laws.FnExactExtreme', WHERE WHAT IT READS IS OF BULK AT MOST 1048576: true; the input reads as it did. -/
def fnExactExtremeUptoRow : OpenClaim := { program := "ytacbkcofcbglhaa", sum := "2376f3c8f529488e0aaa195007496e221f2791f2961cee2ae0b5aa69b2ec059b", func := "loop.example/g00112/laws.FnExactExtreme", spec := "fnExactExtreme", unfollowed := true, recurses := true, apart := false, narrowed := true }
def FnExactExtremeUptoSaid : Prop := fnExactExtremeUptoRow.holds Try.pinned (OpenSpec.upto fnExactExtremeSpec)

end Rows
end Go.Proofs.Ytacbkcofcbglhaa
