/-
  No cell of these rows narrows 'for every input' (looked for: loops, veiled, ifaces, maps, wideKeys, modest, calm, conditions, laid).
  DERIVED. THE GIVEN ROWS OF THIS SEAT. 3 by the template 'for every input the law returns true; each argument reads behind the call as it read before'; 0 by the template 'total and deterministic' (their statements: YtoccifnjhbibcaaTotals.lean).
  GIVEN WITH THE SEED: the statements are not yours to turn. If you find one false, say at which input.
  Laid BY PROGRAM, IN A SANDBOX (cutbox-rows.mjs): the forced cells as the released guide's own fill.sh prints them over the translation bd4b99bcf4786c7f… (all of the seat's roots in one cut). By AI agents, Wed Nov 11 2026. No macro, syntax, notation, axiom, sorry.
-/
import Derived.Test.YtoccifnjhbibcaaChecked
import GoSem.Claim
import GoSem.ClaimJoined
import GoSem.ClaimMapViews
import Derived.JoinedTies
import Derived.KernelRfl
namespace Go.Proofs.Ytoccifnjhbibcaa
/- THE CELL 'sum', in the pinned program and in every row, IS THE sha256 OF THE DUMP (.gsa) THAT YtoccifnjhbibcaaProg.lean LOADS. Nothing in Lean hashes anything: it is a label: what it is worth is what the hold of that sum in a sandbox is worth. -/
noncomputable def Try.pinned : Pinned := { name := "ytoccifnjhbibcaa", sum := "bd4b99bcf4786c7f2229f9abb8de817d920f98a8e0ec1e7eb78294547741d0f5", checked := Try.checked }
namespace Rows
def none {H : Type} : Left H := { results := [], args := [] }

/-- 'laws.FnMixes': WHATEVER THE INPUT: true; the input reads as it did. -/
def fnMixesSpec : ChangeSpec := { name := "fnMixes", fn := fun _ => fun
  | [d] => { results := [.lit (.bool true)], args := [d] }
  | _ => none }
def fnMixesRow : OpenClaim := { program := "ytoccifnjhbibcaa", sum := "bd4b99bcf4786c7f2229f9abb8de817d920f98a8e0ec1e7eb78294547741d0f5", func := "loop.example/g00112/laws.FnMixes", spec := "fnMixes", unfollowed := true, recurses := true, apart := false }
def FnMixesSaid : Prop := fnMixesRow.holds Try.pinned (OpenSpec.ofChange fnMixesSpec)

/-- ITS FALSE NEIGHBOUR: 'it returns false'. Refute it at one input. -/
def fnMixesWrong : ChangeSpec := { name := "fnMixes", fn := fun _ => fun
  | [d] => { results := [.lit (.bool false)], args := [d] }
  | _ => none }
def FnMixesWrongFalsely : Prop := fnMixesRow.holds Try.pinned (OpenSpec.ofChange fnMixesWrong)

/-- 'laws.FnExtremes': WHATEVER THE INPUT: true; the input reads as it did. -/
def fnExtremesSpec : ChangeSpec := { name := "fnExtremes", fn := fun _ => fun
  | [d] => { results := [.lit (.bool true)], args := [d] }
  | _ => none }
def fnExtremesRow : OpenClaim := { program := "ytoccifnjhbibcaa", sum := "bd4b99bcf4786c7f2229f9abb8de817d920f98a8e0ec1e7eb78294547741d0f5", func := "loop.example/g00112/laws.FnExtremes", spec := "fnExtremes", unfollowed := true, recurses := true, apart := false }
def FnExtremesSaid : Prop := fnExtremesRow.holds Try.pinned (OpenSpec.ofChange fnExtremesSpec)

/-- ITS FALSE NEIGHBOUR: 'it returns false'. Refute it at one input. -/
def fnExtremesWrong : ChangeSpec := { name := "fnExtremes", fn := fun _ => fun
  | [d] => { results := [.lit (.bool false)], args := [d] }
  | _ => none }
def FnExtremesWrongFalsely : Prop := fnExtremesRow.holds Try.pinned (OpenSpec.ofChange fnExtremesWrong)

/-- 'laws.FnExactExtreme': WHATEVER THE INPUT: true; the input reads as it did. -/
def fnExactExtremeSpec : ChangeSpec := { name := "fnExactExtreme", fn := fun _ => fun
  | [d1, d2, d3, d4, d5] => { results := [.lit (.bool true)], args := [d1, d2, d3, d4, d5] }
  | _ => none }
def fnExactExtremeRow : OpenClaim := { program := "ytoccifnjhbibcaa", sum := "bd4b99bcf4786c7f2229f9abb8de817d920f98a8e0ec1e7eb78294547741d0f5", func := "loop.example/g00112/laws.FnExactExtreme", spec := "fnExactExtreme", unfollowed := true, recurses := true, apart := false }
def FnExactExtremeSaid : Prop := fnExactExtremeRow.holds Try.pinned (OpenSpec.ofChange fnExactExtremeSpec)

/-- ITS FALSE NEIGHBOUR: 'it returns false'. Refute it at one input. -/
def fnExactExtremeWrong : ChangeSpec := { name := "fnExactExtreme", fn := fun _ => fun
  | [d1, d2, d3, d4, d5] => { results := [.lit (.bool false)], args := [d1, d2, d3, d4, d5] }
  | _ => none }
def FnExactExtremeWrongFalsely : Prop := fnExactExtremeRow.holds Try.pinned (OpenSpec.ofChange fnExactExtremeWrong)

/- THE SECOND FORM. 'bulk': how many values and letters a reading holds, each counted each time it is reached (what is shared counts as often as it is met; a slice's spare places count too). A statement '..UptoSaid' is the law's where the arguments, and the package variables that the reading takes, are together of bulk at most 1048576: NARROWER than '..Said'. Prove '..Said' where nothing that the law and all that it calls make is longer than what came in: it says more and counts as full. Else prove '..UptoSaid'. A law counts once. -/
mutual
def uptoBulk {H : Type} : DataW H → Nat
  | .lit (.string bytes) => bytes.length + 1
  | .lit _ => 1
  | .nil => 1
  | .ptr d => uptoBulk d + 1
  | .slice elems spare => uptoBulkAll elems + uptoBulkAll spare + 1
  | .agg parts => uptoBulkAll parts + 1
  | .iface _ d => uptoBulk d + 1
  | .map entries => uptoBulkEntries entries + 1
  | .held _ => 1
def uptoBulkAll {H : Type} : List (DataW H) → Nat
  | [] => 0
  | d :: r => uptoBulk d + uptoBulkAll r
def uptoBulkEntries {H : Type} : List (Lit × DataW H) → Nat
  | [] => 0
  | x :: r => uptoBulkEntry x + uptoBulkEntries r
def uptoBulkEntry {H : Type} : Lit × DataW H → Nat
  | (.string bytes, d) => bytes.length + uptoBulk d + 1
  | (_, d) => uptoBulk d + 1
 end
def uptoSmall : (H : Type) → List (DataW H) → Bool := fun _ ds => decide (uptoBulkAll ds ≤ 1048576)
def OpenSpec.upto (s : _root_.Go.ChangeSpec) : _root_.Go.OpenSpec := { _root_.Go.OpenSpec.ofChange s with cond := some uptoSmall }

/-- 'laws.FnMixes', WHERE WHAT IT READS IS OF BULK AT MOST 1048576: true; the input reads as it did. -/
def fnMixesUptoRow : OpenClaim := { program := "ytoccifnjhbibcaa", sum := "bd4b99bcf4786c7f2229f9abb8de817d920f98a8e0ec1e7eb78294547741d0f5", func := "loop.example/g00112/laws.FnMixes", spec := "fnMixes", unfollowed := true, recurses := true, apart := false, narrowed := true }
def FnMixesUptoSaid : Prop := fnMixesUptoRow.holds Try.pinned (OpenSpec.upto fnMixesSpec)

/-- 'laws.FnExtremes', WHERE WHAT IT READS IS OF BULK AT MOST 1048576: true; the input reads as it did. -/
def fnExtremesUptoRow : OpenClaim := { program := "ytoccifnjhbibcaa", sum := "bd4b99bcf4786c7f2229f9abb8de817d920f98a8e0ec1e7eb78294547741d0f5", func := "loop.example/g00112/laws.FnExtremes", spec := "fnExtremes", unfollowed := true, recurses := true, apart := false, narrowed := true }
def FnExtremesUptoSaid : Prop := fnExtremesUptoRow.holds Try.pinned (OpenSpec.upto fnExtremesSpec)

/-- 'laws.FnExactExtreme', WHERE WHAT IT READS IS OF BULK AT MOST 1048576: true; the input reads as it did. -/
def fnExactExtremeUptoRow : OpenClaim := { program := "ytoccifnjhbibcaa", sum := "bd4b99bcf4786c7f2229f9abb8de817d920f98a8e0ec1e7eb78294547741d0f5", func := "loop.example/g00112/laws.FnExactExtreme", spec := "fnExactExtreme", unfollowed := true, recurses := true, apart := false, narrowed := true }
def FnExactExtremeUptoSaid : Prop := fnExactExtremeUptoRow.holds Try.pinned (OpenSpec.upto fnExactExtremeSpec)

end Rows
end Go.Proofs.Ytoccifnjhbibcaa
