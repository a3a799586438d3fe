/-
  No cell of these rows narrows 'for every input' (looked for: loops, veiled, ifaces, maps, wideKeys, modest, calm, conditions, laid).
  DERIVED. THE GIVEN ROWS OF THIS SEAT. 7 by the template 'for every input the law returns true; each argument reads behind the call as it read before'; 0 by the template 'total and deterministic' (their statements: YtoccifnjhbibcaaGreatTotals.lean).
  GIVEN WITH THE SEED: the statements are not yours to turn. If you find one false, say at which input.
  Laid BY PROGRAM, IN A SANDBOX (cutbox-rows.mjs): the forced cells as the released guide's own fill.sh prints them over the translation 0010f17e3e9cca9d… (all of the seat's roots in one cut). By AI agents, Wed Nov 11 2026. No macro, syntax, notation, axiom, sorry.
-/
import Derived.Test.YtoccifnjhbibcaaGreatChecked
import GoSem.Claim
import GoSem.ClaimJoined
import GoSem.ClaimMapViews
import Derived.JoinedTies
import Derived.KernelRfl
namespace Go.Proofs.YtoccifnjhbibcaaGreat
/- THE CELL 'sum', in the pinned program and in every row, IS THE sha256 OF THE DUMP (.gsa) THAT YtoccifnjhbibcaaGreatProg.lean LOADS. Nothing in Lean hashes anything: it is a label: what it is worth is what the hold of that sum in a sandbox is worth. -/
noncomputable def Tryz.pinned : Pinned := { name := "ytoccifnjhbibcaagreat", sum := "0010f17e3e9cca9dbc561ef108be86ebdb6008e71f67d7c58fb1e219bd455f6d", checked := Tryz.checked }
namespace Rows
def none {H : Type} : Left H := { results := [], args := [] }

/-- 'laws.FnReads': WHATEVER THE INPUT: true; the input reads as it did. -/
def fnReadsSpec : ChangeSpec := { name := "fnReads", fn := fun _ => fun
  | [d] => { results := [.lit (.bool true)], args := [d] }
  | _ => none }
def fnReadsRow : OpenClaim := { program := "ytoccifnjhbibcaagreat", sum := "0010f17e3e9cca9dbc561ef108be86ebdb6008e71f67d7c58fb1e219bd455f6d", func := "loop.example/g00112/laws.FnReads", spec := "fnReads", unfollowed := true, recurses := true, apart := false }
def FnReadsSaid : Prop := fnReadsRow.holds Tryz.pinned (OpenSpec.ofChange fnReadsSpec)

/-- ITS FALSE NEIGHBOUR: 'it returns false'. Refute it at one input. -/
def fnReadsWrong : ChangeSpec := { name := "fnReads", fn := fun _ => fun
  | [d] => { results := [.lit (.bool false)], args := [d] }
  | _ => none }
def FnReadsWrongFalsely : Prop := fnReadsRow.holds Tryz.pinned (OpenSpec.ofChange fnReadsWrong)

/-- 'laws.FnExactReadModel': WHATEVER THE INPUT: true; the input reads as it did. -/
def fnExactReadModelSpec : ChangeSpec := { name := "fnExactReadModel", fn := fun _ => fun
  | [d] => { results := [.lit (.bool true)], args := [d] }
  | _ => none }
def fnExactReadModelRow : OpenClaim := { program := "ytoccifnjhbibcaagreat", sum := "0010f17e3e9cca9dbc561ef108be86ebdb6008e71f67d7c58fb1e219bd455f6d", func := "loop.example/g00112/laws.FnExactReadModel", spec := "fnExactReadModel", unfollowed := true, recurses := true, apart := false }
def FnExactReadModelSaid : Prop := fnExactReadModelRow.holds Tryz.pinned (OpenSpec.ofChange fnExactReadModelSpec)

/-- ITS FALSE NEIGHBOUR: 'it returns false'. Refute it at one input. -/
def fnExactReadModelWrong : ChangeSpec := { name := "fnExactReadModel", fn := fun _ => fun
  | [d] => { results := [.lit (.bool false)], args := [d] }
  | _ => none }
def FnExactReadModelWrongFalsely : Prop := fnExactReadModelRow.holds Tryz.pinned (OpenSpec.ofChange fnExactReadModelWrong)

/-- 'laws.FnExactKeyValue': WHATEVER THE INPUT: true; the input reads as it did. -/
def fnExactKeyValueSpec : ChangeSpec := { name := "fnExactKeyValue", fn := fun _ => fun
  | [d1, d2, d3, d4] => { results := [.lit (.bool true)], args := [d1, d2, d3, d4] }
  | _ => none }
def fnExactKeyValueRow : OpenClaim := { program := "ytoccifnjhbibcaagreat", sum := "0010f17e3e9cca9dbc561ef108be86ebdb6008e71f67d7c58fb1e219bd455f6d", func := "loop.example/g00112/laws.FnExactKeyValue", spec := "fnExactKeyValue", unfollowed := true, recurses := true, apart := false }
def FnExactKeyValueSaid : Prop := fnExactKeyValueRow.holds Tryz.pinned (OpenSpec.ofChange fnExactKeyValueSpec)

/-- ITS FALSE NEIGHBOUR: 'it returns false'. Refute it at one input. -/
def fnExactKeyValueWrong : ChangeSpec := { name := "fnExactKeyValue", fn := fun _ => fun
  | [d1, d2, d3, d4] => { results := [.lit (.bool false)], args := [d1, d2, d3, d4] }
  | _ => none }
def FnExactKeyValueWrongFalsely : Prop := fnExactKeyValueRow.holds Tryz.pinned (OpenSpec.ofChange fnExactKeyValueWrong)

/-- 'laws.FnLayers': WHATEVER THE INPUT: true; the input reads as it did. -/
def fnLayersSpec : ChangeSpec := { name := "fnLayers", fn := fun _ => fun
  | [d] => { results := [.lit (.bool true)], args := [d] }
  | _ => none }
def fnLayersRow : OpenClaim := { program := "ytoccifnjhbibcaagreat", sum := "0010f17e3e9cca9dbc561ef108be86ebdb6008e71f67d7c58fb1e219bd455f6d", func := "loop.example/g00112/laws.FnLayers", spec := "fnLayers", unfollowed := true, recurses := true, apart := false }
def FnLayersSaid : Prop := fnLayersRow.holds Tryz.pinned (OpenSpec.ofChange fnLayersSpec)

/-- ITS FALSE NEIGHBOUR: 'it returns false'. Refute it at one input. -/
def fnLayersWrong : ChangeSpec := { name := "fnLayers", fn := fun _ => fun
  | [d] => { results := [.lit (.bool false)], args := [d] }
  | _ => none }
def FnLayersWrongFalsely : Prop := fnLayersRow.holds Tryz.pinned (OpenSpec.ofChange fnLayersWrong)

/-- 'laws.FnExactLayerStep': WHATEVER THE INPUT: true; the input reads as it did. -/
def fnExactLayerStepSpec : ChangeSpec := { name := "fnExactLayerStep", fn := fun _ => fun
  | [d1, d2, d3, d4, d5, d6] => { results := [.lit (.bool true)], args := [d1, d2, d3, d4, d5, d6] }
  | _ => none }
def fnExactLayerStepRow : OpenClaim := { program := "ytoccifnjhbibcaagreat", sum := "0010f17e3e9cca9dbc561ef108be86ebdb6008e71f67d7c58fb1e219bd455f6d", func := "loop.example/g00112/laws.FnExactLayerStep", spec := "fnExactLayerStep", unfollowed := true, recurses := true, apart := false }
def FnExactLayerStepSaid : Prop := fnExactLayerStepRow.holds Tryz.pinned (OpenSpec.ofChange fnExactLayerStepSpec)

/-- ITS FALSE NEIGHBOUR: 'it returns false'. Refute it at one input. -/
def fnExactLayerStepWrong : ChangeSpec := { name := "fnExactLayerStep", fn := fun _ => fun
  | [d1, d2, d3, d4, d5, d6] => { results := [.lit (.bool false)], args := [d1, d2, d3, d4, d5, d6] }
  | _ => none }
def FnExactLayerStepWrongFalsely : Prop := fnExactLayerStepRow.holds Tryz.pinned (OpenSpec.ofChange fnExactLayerStepWrong)

/-- 'laws.FnExactLogits': WHATEVER THE INPUT: true; the input reads as it did. -/
def fnExactLogitsSpec : ChangeSpec := { name := "fnExactLogits", fn := fun _ => fun
  | [d1, d2] => { results := [.lit (.bool true)], args := [d1, d2] }
  | _ => none }
def fnExactLogitsRow : OpenClaim := { program := "ytoccifnjhbibcaagreat", sum := "0010f17e3e9cca9dbc561ef108be86ebdb6008e71f67d7c58fb1e219bd455f6d", func := "loop.example/g00112/laws.FnExactLogits", spec := "fnExactLogits", unfollowed := true, recurses := true, apart := false }
def FnExactLogitsSaid : Prop := fnExactLogitsRow.holds Tryz.pinned (OpenSpec.ofChange fnExactLogitsSpec)

/-- ITS FALSE NEIGHBOUR: 'it returns false'. Refute it at one input. -/
def fnExactLogitsWrong : ChangeSpec := { name := "fnExactLogits", fn := fun _ => fun
  | [d1, d2] => { results := [.lit (.bool false)], args := [d1, d2] }
  | _ => none }
def FnExactLogitsWrongFalsely : Prop := fnExactLogitsRow.holds Tryz.pinned (OpenSpec.ofChange fnExactLogitsWrong)

/-- 'laws.FnAhead': WHATEVER THE INPUT: true; the input reads as it did. -/
def fnAheadSpec : ChangeSpec := { name := "fnAhead", fn := fun _ => fun
  | [d] => { results := [.lit (.bool true)], args := [d] }
  | _ => none }
def fnAheadRow : OpenClaim := { program := "ytoccifnjhbibcaagreat", sum := "0010f17e3e9cca9dbc561ef108be86ebdb6008e71f67d7c58fb1e219bd455f6d", func := "loop.example/g00112/laws.FnAhead", spec := "fnAhead", unfollowed := true, recurses := true, apart := false }
def FnAheadSaid : Prop := fnAheadRow.holds Tryz.pinned (OpenSpec.ofChange fnAheadSpec)

/-- ITS FALSE NEIGHBOUR: 'it returns false'. Refute it at one input. -/
def fnAheadWrong : ChangeSpec := { name := "fnAhead", fn := fun _ => fun
  | [d] => { results := [.lit (.bool false)], args := [d] }
  | _ => none }
def FnAheadWrongFalsely : Prop := fnAheadRow.holds Tryz.pinned (OpenSpec.ofChange fnAheadWrong)

/- THE SECOND FORM. 'bulk': how many values and letters a reading holds, each counted each time it is reached (what is shared counts as often as it is met; a slice's spare places count too). A statement '..UptoSaid' is the law's where the arguments, and the package variables that the reading takes, are together of bulk at most 1048576: NARROWER than '..Said'. Prove '..Said' where nothing that the law and all that it calls make is longer than what came in: it says more and counts as full. Else prove '..UptoSaid'. A law counts once. -/
mutual
def uptoBulk {H : Type} : DataW H → Nat
  | .lit (.string bytes) => bytes.length + 1
  | .lit _ => 1
  | .nil => 1
  | .ptr d => uptoBulk d + 1
  | .slice elems spare => uptoBulkAll elems + uptoBulkAll spare + 1
  | .agg parts => uptoBulkAll parts + 1
  | .iface _ d => uptoBulk d + 1
  | .map entries => uptoBulkEntries entries + 1
  | .held _ => 1
def uptoBulkAll {H : Type} : List (DataW H) → Nat
  | [] => 0
  | d :: r => uptoBulk d + uptoBulkAll r
def uptoBulkEntries {H : Type} : List (Lit × DataW H) → Nat
  | [] => 0
  | x :: r => uptoBulkEntry x + uptoBulkEntries r
def uptoBulkEntry {H : Type} : Lit × DataW H → Nat
  | (.string bytes, d) => bytes.length + uptoBulk d + 1
  | (_, d) => uptoBulk d + 1
 end
def uptoSmall : (H : Type) → List (DataW H) → Bool := fun _ ds => decide (uptoBulkAll ds ≤ 1048576)
def OpenSpec.upto (s : _root_.Go.ChangeSpec) : _root_.Go.OpenSpec := { _root_.Go.OpenSpec.ofChange s with cond := some uptoSmall }

/-- 'laws.FnReads', WHERE WHAT IT READS IS OF BULK AT MOST 1048576: true; the input reads as it did. -/
def fnReadsUptoRow : OpenClaim := { program := "ytoccifnjhbibcaagreat", sum := "0010f17e3e9cca9dbc561ef108be86ebdb6008e71f67d7c58fb1e219bd455f6d", func := "loop.example/g00112/laws.FnReads", spec := "fnReads", unfollowed := true, recurses := true, apart := false, narrowed := true }
def FnReadsUptoSaid : Prop := fnReadsUptoRow.holds Tryz.pinned (OpenSpec.upto fnReadsSpec)

/-- 'laws.FnExactReadModel', WHERE WHAT IT READS IS OF BULK AT MOST 1048576: true; the input reads as it did. -/
def fnExactReadModelUptoRow : OpenClaim := { program := "ytoccifnjhbibcaagreat", sum := "0010f17e3e9cca9dbc561ef108be86ebdb6008e71f67d7c58fb1e219bd455f6d", func := "loop.example/g00112/laws.FnExactReadModel", spec := "fnExactReadModel", unfollowed := true, recurses := true, apart := false, narrowed := true }
def FnExactReadModelUptoSaid : Prop := fnExactReadModelUptoRow.holds Tryz.pinned (OpenSpec.upto fnExactReadModelSpec)

/-- 'laws.FnExactKeyValue', WHERE WHAT IT READS IS OF BULK AT MOST 1048576: true; the input reads as it did. -/
def fnExactKeyValueUptoRow : OpenClaim := { program := "ytoccifnjhbibcaagreat", sum := "0010f17e3e9cca9dbc561ef108be86ebdb6008e71f67d7c58fb1e219bd455f6d", func := "loop.example/g00112/laws.FnExactKeyValue", spec := "fnExactKeyValue", unfollowed := true, recurses := true, apart := false, narrowed := true }
def FnExactKeyValueUptoSaid : Prop := fnExactKeyValueUptoRow.holds Tryz.pinned (OpenSpec.upto fnExactKeyValueSpec)

/-- 'laws.FnLayers', WHERE WHAT IT READS IS OF BULK AT MOST 1048576: true; the input reads as it did. -/
def fnLayersUptoRow : OpenClaim := { program := "ytoccifnjhbibcaagreat", sum := "0010f17e3e9cca9dbc561ef108be86ebdb6008e71f67d7c58fb1e219bd455f6d", func := "loop.example/g00112/laws.FnLayers", spec := "fnLayers", unfollowed := true, recurses := true, apart := false, narrowed := true }
def FnLayersUptoSaid : Prop := fnLayersUptoRow.holds Tryz.pinned (OpenSpec.upto fnLayersSpec)

/-- 'laws.FnExactLayerStep', WHERE WHAT IT READS IS OF BULK AT MOST 1048576: true; the input reads as it did. -/
def fnExactLayerStepUptoRow : OpenClaim := { program := "ytoccifnjhbibcaagreat", sum := "0010f17e3e9cca9dbc561ef108be86ebdb6008e71f67d7c58fb1e219bd455f6d", func := "loop.example/g00112/laws.FnExactLayerStep", spec := "fnExactLayerStep", unfollowed := true, recurses := true, apart := false, narrowed := true }
def FnExactLayerStepUptoSaid : Prop := fnExactLayerStepUptoRow.holds Tryz.pinned (OpenSpec.upto fnExactLayerStepSpec)

/-- 'laws.FnExactLogits', WHERE WHAT IT READS IS OF BULK AT MOST 1048576: true; the input reads as it did. -/
def fnExactLogitsUptoRow : OpenClaim := { program := "ytoccifnjhbibcaagreat", sum := "0010f17e3e9cca9dbc561ef108be86ebdb6008e71f67d7c58fb1e219bd455f6d", func := "loop.example/g00112/laws.FnExactLogits", spec := "fnExactLogits", unfollowed := true, recurses := true, apart := false, narrowed := true }
def FnExactLogitsUptoSaid : Prop := fnExactLogitsUptoRow.holds Tryz.pinned (OpenSpec.upto fnExactLogitsSpec)

/-- 'laws.FnAhead', WHERE WHAT IT READS IS OF BULK AT MOST 1048576: true; the input reads as it did. -/
def fnAheadUptoRow : OpenClaim := { program := "ytoccifnjhbibcaagreat", sum := "0010f17e3e9cca9dbc561ef108be86ebdb6008e71f67d7c58fb1e219bd455f6d", func := "loop.example/g00112/laws.FnAhead", spec := "fnAhead", unfollowed := true, recurses := true, apart := false, narrowed := true }
def FnAheadUptoSaid : Prop := fnAheadUptoRow.holds Tryz.pinned (OpenSpec.upto fnAheadSpec)

end Rows
end Go.Proofs.YtoccifnjhbibcaaGreat
