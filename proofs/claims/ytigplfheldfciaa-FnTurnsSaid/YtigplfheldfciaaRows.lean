/-
  No cell of these rows narrows 'for every input' (looked for: loops, veiled, ifaces, maps, wideKeys, modest, calm, conditions, laid).
  DERIVED. THE GIVEN ROWS OF THIS SEAT. 12 by the template 'for every input the law returns true; each argument reads behind the call as it read before'; 0 by the template 'total and deterministic' (their statements: YtigplfheldfciaaTotals.lean).
  GIVEN WITH THE SEED: the statements are not yours to turn. If you find one false, say at which input.
  Laid BY PROGRAM, IN A SANDBOX (cutbox-rows.mjs): the forced cells as the released guide's own fill.sh prints them over the translation 80f23e9fefc372a5… (all of the seat's roots in one cut). By AI agents, Wed Nov 11 2026. No macro, syntax, notation, axiom, sorry.
-/
import Derived.Test.YtigplfheldfciaaChecked
import GoSem.Claim
import GoSem.ClaimJoined
import GoSem.ClaimMapViews
import Derived.JoinedTies
import Derived.KernelRfl
namespace Go.Proofs.Ytigplfheldfciaa
/- THE CELL 'sum', in the pinned program and in every row, IS THE sha256 OF THE DUMP (.gsa) THAT YtigplfheldfciaaProg.lean LOADS. Nothing in Lean hashes anything: it is a label: what it is worth is what the hold of that sum in a sandbox is worth. -/
noncomputable def Try.pinned : Pinned := { name := "ytigplfheldfciaa", sum := "80f23e9fefc372a59437b6a23c7b12f9578c381f6047c1e33e2268c8aa139d2e", checked := Try.checked }
namespace Rows
def none {H : Type} : Left H := { results := [], args := [] }

/-- 'laws.FnExactTurnsFor': WHATEVER THE INPUT: true; the input reads as it did. -/
def fnExactTurnsForSpec : ChangeSpec := { name := "fnExactTurnsFor", fn := fun _ => fun
  | [d1, d2] => { results := [.lit (.bool true)], args := [d1, d2] }
  | _ => none }
def fnExactTurnsForRow : OpenClaim := { program := "ytigplfheldfciaa", sum := "80f23e9fefc372a59437b6a23c7b12f9578c381f6047c1e33e2268c8aa139d2e", func := "loop.example/g00112/laws.FnExactTurnsFor", spec := "fnExactTurnsFor", apart := false }
def FnExactTurnsForSaid : Prop := fnExactTurnsForRow.holds Try.pinned (OpenSpec.ofChange fnExactTurnsForSpec)

/-- ITS FALSE NEIGHBOUR: 'it returns false'. Refute it at one input. -/
def fnExactTurnsForWrong : ChangeSpec := { name := "fnExactTurnsFor", fn := fun _ => fun
  | [d1, d2] => { results := [.lit (.bool false)], args := [d1, d2] }
  | _ => none }
def FnExactTurnsForWrongFalsely : Prop := fnExactTurnsForRow.holds Try.pinned (OpenSpec.ofChange fnExactTurnsForWrong)

/-- 'laws.FnStates': WHATEVER THE INPUT: true; the input reads as it did. -/
def fnStatesSpec : ChangeSpec := { name := "fnStates", fn := fun _ => fun
  | [d] => { results := [.lit (.bool true)], args := [d] }
  | _ => none }
def fnStatesRow : OpenClaim := { program := "ytigplfheldfciaa", sum := "80f23e9fefc372a59437b6a23c7b12f9578c381f6047c1e33e2268c8aa139d2e", func := "loop.example/g00112/laws.FnStates", spec := "fnStates", unfollowed := true, recurses := true, apart := false }
def FnStatesSaid : Prop := fnStatesRow.holds Try.pinned (OpenSpec.ofChange fnStatesSpec)

/-- ITS FALSE NEIGHBOUR: 'it returns false'. Refute it at one input. -/
def fnStatesWrong : ChangeSpec := { name := "fnStates", fn := fun _ => fun
  | [d] => { results := [.lit (.bool false)], args := [d] }
  | _ => none }
def FnStatesWrongFalsely : Prop := fnStatesRow.holds Try.pinned (OpenSpec.ofChange fnStatesWrong)

/-- 'laws.FnExactPutBack': WHATEVER THE INPUT: true; the input reads as it did. -/
def fnExactPutBackSpec : ChangeSpec := { name := "fnExactPutBack", fn := fun _ => fun
  | [d] => { results := [.lit (.bool true)], args := [d] }
  | _ => none }
def fnExactPutBackRow : OpenClaim := { program := "ytigplfheldfciaa", sum := "80f23e9fefc372a59437b6a23c7b12f9578c381f6047c1e33e2268c8aa139d2e", func := "loop.example/g00112/laws.FnExactPutBack", spec := "fnExactPutBack", unfollowed := true, recurses := true, apart := false }
def FnExactPutBackSaid : Prop := fnExactPutBackRow.holds Try.pinned (OpenSpec.ofChange fnExactPutBackSpec)

/-- ITS FALSE NEIGHBOUR: 'it returns false'. Refute it at one input. -/
def fnExactPutBackWrong : ChangeSpec := { name := "fnExactPutBack", fn := fun _ => fun
  | [d] => { results := [.lit (.bool false)], args := [d] }
  | _ => none }
def FnExactPutBackWrongFalsely : Prop := fnExactPutBackRow.holds Try.pinned (OpenSpec.ofChange fnExactPutBackWrong)

/-- 'laws.FnTurns': WHATEVER THE INPUT: true; the input reads as it did. -/
def fnTurnsSpec : ChangeSpec := { name := "fnTurns", fn := fun _ => fun
  | [d] => { results := [.lit (.bool true)], args := [d] }
  | _ => none }
def fnTurnsRow : OpenClaim := { program := "ytigplfheldfciaa", sum := "80f23e9fefc372a59437b6a23c7b12f9578c381f6047c1e33e2268c8aa139d2e", func := "loop.example/g00112/laws.FnTurns", spec := "fnTurns", unfollowed := true, recurses := true, apart := false }
def FnTurnsSaid : Prop := fnTurnsRow.holds Try.pinned (OpenSpec.ofChange fnTurnsSpec)

/-- ITS FALSE NEIGHBOUR: 'it returns false'. Refute it at one input. -/
def fnTurnsWrong : ChangeSpec := { name := "fnTurns", fn := fun _ => fun
  | [d] => { results := [.lit (.bool false)], args := [d] }
  | _ => none }
def FnTurnsWrongFalsely : Prop := fnTurnsRow.holds Try.pinned (OpenSpec.ofChange fnTurnsWrong)

/-- 'laws.FnPools': WHATEVER THE INPUT: true; the input reads as it did. -/
def fnPoolsSpec : ChangeSpec := { name := "fnPools", fn := fun _ => fun
  | [d] => { results := [.lit (.bool true)], args := [d] }
  | _ => none }
def fnPoolsRow : OpenClaim := { program := "ytigplfheldfciaa", sum := "80f23e9fefc372a59437b6a23c7b12f9578c381f6047c1e33e2268c8aa139d2e", func := "loop.example/g00112/laws.FnPools", spec := "fnPools", unfollowed := true, recurses := true, apart := false }
def FnPoolsSaid : Prop := fnPoolsRow.holds Try.pinned (OpenSpec.ofChange fnPoolsSpec)

/-- ITS FALSE NEIGHBOUR: 'it returns false'. Refute it at one input. -/
def fnPoolsWrong : ChangeSpec := { name := "fnPools", fn := fun _ => fun
  | [d] => { results := [.lit (.bool false)], args := [d] }
  | _ => none }
def FnPoolsWrongFalsely : Prop := fnPoolsRow.holds Try.pinned (OpenSpec.ofChange fnPoolsWrong)

/-- 'laws.FnExactMix': WHATEVER THE INPUT: true; the input reads as it did. -/
def fnExactMixSpec : ChangeSpec := { name := "fnExactMix", fn := fun _ => fun
  | [d1, d2] => { results := [.lit (.bool true)], args := [d1, d2] }
  | _ => none }
def fnExactMixRow : OpenClaim := { program := "ytigplfheldfciaa", sum := "80f23e9fefc372a59437b6a23c7b12f9578c381f6047c1e33e2268c8aa139d2e", func := "loop.example/g00112/laws.FnExactMix", spec := "fnExactMix", unfollowed := true, recurses := true, apart := false }
def FnExactMixSaid : Prop := fnExactMixRow.holds Try.pinned (OpenSpec.ofChange fnExactMixSpec)

/-- ITS FALSE NEIGHBOUR: 'it returns false'. Refute it at one input. -/
def fnExactMixWrong : ChangeSpec := { name := "fnExactMix", fn := fun _ => fun
  | [d1, d2] => { results := [.lit (.bool false)], args := [d1, d2] }
  | _ => none }
def FnExactMixWrongFalsely : Prop := fnExactMixRow.holds Try.pinned (OpenSpec.ofChange fnExactMixWrong)

/-- 'laws.FnExactCutDown': WHATEVER THE INPUT: true; the input reads as it did. -/
def fnExactCutDownSpec : ChangeSpec := { name := "fnExactCutDown", fn := fun _ => fun
  | [d] => { results := [.lit (.bool true)], args := [d] }
  | _ => none }
def fnExactCutDownRow : OpenClaim := { program := "ytigplfheldfciaa", sum := "80f23e9fefc372a59437b6a23c7b12f9578c381f6047c1e33e2268c8aa139d2e", func := "loop.example/g00112/laws.FnExactCutDown", spec := "fnExactCutDown", unfollowed := true, recurses := true, apart := false }
def FnExactCutDownSaid : Prop := fnExactCutDownRow.holds Try.pinned (OpenSpec.ofChange fnExactCutDownSpec)

/-- ITS FALSE NEIGHBOUR: 'it returns false'. Refute it at one input. -/
def fnExactCutDownWrong : ChangeSpec := { name := "fnExactCutDown", fn := fun _ => fun
  | [d] => { results := [.lit (.bool false)], args := [d] }
  | _ => none }
def FnExactCutDownWrongFalsely : Prop := fnExactCutDownRow.holds Try.pinned (OpenSpec.ofChange fnExactCutDownWrong)

/-- 'laws.FnCutDown': WHATEVER THE INPUT: true; the input reads as it did. -/
def fnCutDownSpec : ChangeSpec := { name := "fnCutDown", fn := fun _ => fun
  | [d] => { results := [.lit (.bool true)], args := [d] }
  | _ => none }
def fnCutDownRow : OpenClaim := { program := "ytigplfheldfciaa", sum := "80f23e9fefc372a59437b6a23c7b12f9578c381f6047c1e33e2268c8aa139d2e", func := "loop.example/g00112/laws.FnCutDown", spec := "fnCutDown", unfollowed := true, recurses := true, apart := false }
def FnCutDownSaid : Prop := fnCutDownRow.holds Try.pinned (OpenSpec.ofChange fnCutDownSpec)

/-- ITS FALSE NEIGHBOUR: 'it returns false'. Refute it at one input. -/
def fnCutDownWrong : ChangeSpec := { name := "fnCutDown", fn := fun _ => fun
  | [d] => { results := [.lit (.bool false)], args := [d] }
  | _ => none }
def FnCutDownWrongFalsely : Prop := fnCutDownRow.holds Try.pinned (OpenSpec.ofChange fnCutDownWrong)

/-- 'laws.FnExactTurnAll': WHATEVER THE INPUT: true; the input reads as it did. -/
def fnExactTurnAllSpec : ChangeSpec := { name := "fnExactTurnAll", fn := fun _ => fun
  | [d1, d2, d3, d4] => { results := [.lit (.bool true)], args := [d1, d2, d3, d4] }
  | _ => none }
def fnExactTurnAllRow : OpenClaim := { program := "ytigplfheldfciaa", sum := "80f23e9fefc372a59437b6a23c7b12f9578c381f6047c1e33e2268c8aa139d2e", func := "loop.example/g00112/laws.FnExactTurnAll", spec := "fnExactTurnAll", apart := false }
def FnExactTurnAllSaid : Prop := fnExactTurnAllRow.holds Try.pinned (OpenSpec.ofChange fnExactTurnAllSpec)

/-- ITS FALSE NEIGHBOUR: 'it returns false'. Refute it at one input. -/
def fnExactTurnAllWrong : ChangeSpec := { name := "fnExactTurnAll", fn := fun _ => fun
  | [d1, d2, d3, d4] => { results := [.lit (.bool false)], args := [d1, d2, d3, d4] }
  | _ => none }
def FnExactTurnAllWrongFalsely : Prop := fnExactTurnAllRow.holds Try.pinned (OpenSpec.ofChange fnExactTurnAllWrong)

/-- 'laws.FnApplies': WHATEVER THE INPUT: true; the input reads as it did. -/
def fnAppliesSpec : ChangeSpec := { name := "fnApplies", fn := fun _ => fun
  | [d] => { results := [.lit (.bool true)], args := [d] }
  | _ => none }
def fnAppliesRow : OpenClaim := { program := "ytigplfheldfciaa", sum := "80f23e9fefc372a59437b6a23c7b12f9578c381f6047c1e33e2268c8aa139d2e", func := "loop.example/g00112/laws.FnApplies", spec := "fnApplies", unfollowed := true, recurses := true, apart := false }
def FnAppliesSaid : Prop := fnAppliesRow.holds Try.pinned (OpenSpec.ofChange fnAppliesSpec)

/-- ITS FALSE NEIGHBOUR: 'it returns false'. Refute it at one input. -/
def fnAppliesWrong : ChangeSpec := { name := "fnApplies", fn := fun _ => fun
  | [d] => { results := [.lit (.bool false)], args := [d] }
  | _ => none }
def FnAppliesWrongFalsely : Prop := fnAppliesRow.holds Try.pinned (OpenSpec.ofChange fnAppliesWrong)

/-- 'laws.FnMixes': WHATEVER THE INPUT: true; the input reads as it did. -/
def fnMixesSpec : ChangeSpec := { name := "fnMixes", fn := fun _ => fun
  | [d] => { results := [.lit (.bool true)], args := [d] }
  | _ => none }
def fnMixesRow : OpenClaim := { program := "ytigplfheldfciaa", sum := "80f23e9fefc372a59437b6a23c7b12f9578c381f6047c1e33e2268c8aa139d2e", func := "loop.example/g00112/laws.FnMixes", spec := "fnMixes", unfollowed := true, recurses := true, apart := false }
def FnMixesSaid : Prop := fnMixesRow.holds Try.pinned (OpenSpec.ofChange fnMixesSpec)

/-- ITS FALSE NEIGHBOUR: 'it returns false'. Refute it at one input. -/
def fnMixesWrong : ChangeSpec := { name := "fnMixes", fn := fun _ => fun
  | [d] => { results := [.lit (.bool false)], args := [d] }
  | _ => none }
def FnMixesWrongFalsely : Prop := fnMixesRow.holds Try.pinned (OpenSpec.ofChange fnMixesWrong)

/-- 'laws.FnExactAttend': WHATEVER THE INPUT: true; the input reads as it did. -/
def fnExactAttendSpec : ChangeSpec := { name := "fnExactAttend", fn := fun _ => fun
  | [d1, d2, d3] => { results := [.lit (.bool true)], args := [d1, d2, d3] }
  | _ => none }
def fnExactAttendRow : OpenClaim := { program := "ytigplfheldfciaa", sum := "80f23e9fefc372a59437b6a23c7b12f9578c381f6047c1e33e2268c8aa139d2e", func := "loop.example/g00112/laws.FnExactAttend", spec := "fnExactAttend", unfollowed := true, recurses := true, apart := false }
def FnExactAttendSaid : Prop := fnExactAttendRow.holds Try.pinned (OpenSpec.ofChange fnExactAttendSpec)

/-- ITS FALSE NEIGHBOUR: 'it returns false'. Refute it at one input. -/
def fnExactAttendWrong : ChangeSpec := { name := "fnExactAttend", fn := fun _ => fun
  | [d1, d2, d3] => { results := [.lit (.bool false)], args := [d1, d2, d3] }
  | _ => none }
def FnExactAttendWrongFalsely : Prop := fnExactAttendRow.holds Try.pinned (OpenSpec.ofChange fnExactAttendWrong)

/- THE SECOND FORM. 'bulk': how many values and letters a reading holds, each counted each time it is reached (what is shared counts as often as it is met; a slice's spare places count too). A statement '..UptoSaid' is the law's where the arguments, and the package variables that the reading takes, are together of bulk at most 1048576: NARROWER than '..Said'. Prove '..Said' where nothing that the law and all that it calls make is longer than what came in: it says more and counts as full. Else prove '..UptoSaid'. A law counts once. -/
mutual
def uptoBulk {H : Type} : DataW H → Nat
  | .lit (.string bytes) => bytes.length + 1
  | .lit _ => 1
  | .nil => 1
  | .ptr d => uptoBulk d + 1
  | .slice elems spare => uptoBulkAll elems + uptoBulkAll spare + 1
  | .agg parts => uptoBulkAll parts + 1
  | .iface _ d => uptoBulk d + 1
  | .map entries => uptoBulkEntries entries + 1
  | .held _ => 1
def uptoBulkAll {H : Type} : List (DataW H) → Nat
  | [] => 0
  | d :: r => uptoBulk d + uptoBulkAll r
def uptoBulkEntries {H : Type} : List (Lit × DataW H) → Nat
  | [] => 0
  | x :: r => uptoBulkEntry x + uptoBulkEntries r
def uptoBulkEntry {H : Type} : Lit × DataW H → Nat
  | (.string bytes, d) => bytes.length + uptoBulk d + 1
  | (_, d) => uptoBulk d + 1
 end
def uptoSmall : (H : Type) → List (DataW H) → Bool := fun _ ds => decide (uptoBulkAll ds ≤ 1048576)
def OpenSpec.upto (s : _root_.Go.ChangeSpec) : _root_.Go.OpenSpec := { _root_.Go.OpenSpec.ofChange s with cond := some uptoSmall }

/-- 'laws.FnExactTurnsFor', WHERE WHAT IT READS IS OF BULK AT MOST 1048576: true; the input reads as it did. -/
def fnExactTurnsForUptoRow : OpenClaim := { program := "ytigplfheldfciaa", sum := "80f23e9fefc372a59437b6a23c7b12f9578c381f6047c1e33e2268c8aa139d2e", func := "loop.example/g00112/laws.FnExactTurnsFor", spec := "fnExactTurnsFor", apart := false, narrowed := true }
def FnExactTurnsForUptoSaid : Prop := fnExactTurnsForUptoRow.holds Try.pinned (OpenSpec.upto fnExactTurnsForSpec)

/-- 'laws.FnStates', WHERE WHAT IT READS IS OF BULK AT MOST 1048576: true; the input reads as it did. -/
def fnStatesUptoRow : OpenClaim := { program := "ytigplfheldfciaa", sum := "80f23e9fefc372a59437b6a23c7b12f9578c381f6047c1e33e2268c8aa139d2e", func := "loop.example/g00112/laws.FnStates", spec := "fnStates", unfollowed := true, recurses := true, apart := false, narrowed := true }
def FnStatesUptoSaid : Prop := fnStatesUptoRow.holds Try.pinned (OpenSpec.upto fnStatesSpec)

/-- 'laws.FnExactPutBack', WHERE WHAT IT READS IS OF BULK AT MOST 1048576: true; the input reads as it did. -/
def fnExactPutBackUptoRow : OpenClaim := { program := "ytigplfheldfciaa", sum := "80f23e9fefc372a59437b6a23c7b12f9578c381f6047c1e33e2268c8aa139d2e", func := "loop.example/g00112/laws.FnExactPutBack", spec := "fnExactPutBack", unfollowed := true, recurses := true, apart := false, narrowed := true }
def FnExactPutBackUptoSaid : Prop := fnExactPutBackUptoRow.holds Try.pinned (OpenSpec.upto fnExactPutBackSpec)

/-- 'laws.FnTurns', WHERE WHAT IT READS IS OF BULK AT MOST 1048576: true; the input reads as it did. -/
def fnTurnsUptoRow : OpenClaim := { program := "ytigplfheldfciaa", sum := "80f23e9fefc372a59437b6a23c7b12f9578c381f6047c1e33e2268c8aa139d2e", func := "loop.example/g00112/laws.FnTurns", spec := "fnTurns", unfollowed := true, recurses := true, apart := false, narrowed := true }
def FnTurnsUptoSaid : Prop := fnTurnsUptoRow.holds Try.pinned (OpenSpec.upto fnTurnsSpec)

/-- 'laws.FnPools', WHERE WHAT IT READS IS OF BULK AT MOST 1048576: true; the input reads as it did. -/
def fnPoolsUptoRow : OpenClaim := { program := "ytigplfheldfciaa", sum := "80f23e9fefc372a59437b6a23c7b12f9578c381f6047c1e33e2268c8aa139d2e", func := "loop.example/g00112/laws.FnPools", spec := "fnPools", unfollowed := true, recurses := true, apart := false, narrowed := true }
def FnPoolsUptoSaid : Prop := fnPoolsUptoRow.holds Try.pinned (OpenSpec.upto fnPoolsSpec)

/-- 'laws.FnExactMix', WHERE WHAT IT READS IS OF BULK AT MOST 1048576: true; the input reads as it did. -/
def fnExactMixUptoRow : OpenClaim := { program := "ytigplfheldfciaa", sum := "80f23e9fefc372a59437b6a23c7b12f9578c381f6047c1e33e2268c8aa139d2e", func := "loop.example/g00112/laws.FnExactMix", spec := "fnExactMix", unfollowed := true, recurses := true, apart := false, narrowed := true }
def FnExactMixUptoSaid : Prop := fnExactMixUptoRow.holds Try.pinned (OpenSpec.upto fnExactMixSpec)

/-- 'laws.FnExactCutDown', WHERE WHAT IT READS IS OF BULK AT MOST 1048576: true; the input reads as it did. -/
def fnExactCutDownUptoRow : OpenClaim := { program := "ytigplfheldfciaa", sum := "80f23e9fefc372a59437b6a23c7b12f9578c381f6047c1e33e2268c8aa139d2e", func := "loop.example/g00112/laws.FnExactCutDown", spec := "fnExactCutDown", unfollowed := true, recurses := true, apart := false, narrowed := true }
def FnExactCutDownUptoSaid : Prop := fnExactCutDownUptoRow.holds Try.pinned (OpenSpec.upto fnExactCutDownSpec)

/-- 'laws.FnCutDown', WHERE WHAT IT READS IS OF BULK AT MOST 1048576: true; the input reads as it did. -/
def fnCutDownUptoRow : OpenClaim := { program := "ytigplfheldfciaa", sum := "80f23e9fefc372a59437b6a23c7b12f9578c381f6047c1e33e2268c8aa139d2e", func := "loop.example/g00112/laws.FnCutDown", spec := "fnCutDown", unfollowed := true, recurses := true, apart := false, narrowed := true }
def FnCutDownUptoSaid : Prop := fnCutDownUptoRow.holds Try.pinned (OpenSpec.upto fnCutDownSpec)

/-- 'laws.FnExactTurnAll', WHERE WHAT IT READS IS OF BULK AT MOST 1048576: true; the input reads as it did. -/
def fnExactTurnAllUptoRow : OpenClaim := { program := "ytigplfheldfciaa", sum := "80f23e9fefc372a59437b6a23c7b12f9578c381f6047c1e33e2268c8aa139d2e", func := "loop.example/g00112/laws.FnExactTurnAll", spec := "fnExactTurnAll", apart := false, narrowed := true }
def FnExactTurnAllUptoSaid : Prop := fnExactTurnAllUptoRow.holds Try.pinned (OpenSpec.upto fnExactTurnAllSpec)

/-- 'laws.FnApplies', WHERE WHAT IT READS IS OF BULK AT MOST 1048576: true; the input reads as it did. -/
def fnAppliesUptoRow : OpenClaim := { program := "ytigplfheldfciaa", sum := "80f23e9fefc372a59437b6a23c7b12f9578c381f6047c1e33e2268c8aa139d2e", func := "loop.example/g00112/laws.FnApplies", spec := "fnApplies", unfollowed := true, recurses := true, apart := false, narrowed := true }
def FnAppliesUptoSaid : Prop := fnAppliesUptoRow.holds Try.pinned (OpenSpec.upto fnAppliesSpec)

/-- 'laws.FnMixes', WHERE WHAT IT READS IS OF BULK AT MOST 1048576: true; the input reads as it did. -/
def fnMixesUptoRow : OpenClaim := { program := "ytigplfheldfciaa", sum := "80f23e9fefc372a59437b6a23c7b12f9578c381f6047c1e33e2268c8aa139d2e", func := "loop.example/g00112/laws.FnMixes", spec := "fnMixes", unfollowed := true, recurses := true, apart := false, narrowed := true }
def FnMixesUptoSaid : Prop := fnMixesUptoRow.holds Try.pinned (OpenSpec.upto fnMixesSpec)

/-- 'laws.FnExactAttend', WHERE WHAT IT READS IS OF BULK AT MOST 1048576: true; the input reads as it did. -/
def fnExactAttendUptoRow : OpenClaim := { program := "ytigplfheldfciaa", sum := "80f23e9fefc372a59437b6a23c7b12f9578c381f6047c1e33e2268c8aa139d2e", func := "loop.example/g00112/laws.FnExactAttend", spec := "fnExactAttend", unfollowed := true, recurses := true, apart := false, narrowed := true }
def FnExactAttendUptoSaid : Prop := fnExactAttendUptoRow.holds Try.pinned (OpenSpec.upto fnExactAttendSpec)

end Rows
end Go.Proofs.Ytigplfheldfciaa
