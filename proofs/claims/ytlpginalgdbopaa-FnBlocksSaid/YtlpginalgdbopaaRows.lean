/-
  No cell of these rows narrows 'for every input' (looked for: loops, veiled, ifaces, maps, wideKeys, modest, calm, conditions, laid).
  DERIVED. THE GIVEN ROWS OF THIS SEAT. 12 by the template 'for every input the law returns true; each argument reads behind the call as it read before'; 0 by the template 'total and deterministic' (their statements: YtlpginalgdbopaaTotals.lean).
  GIVEN WITH THE SEED: the statements are not yours to turn. If you find one false, say at which input.
  Laid BY PROGRAM, IN A SANDBOX (cutbox-rows.mjs): the forced cells as the released guide's own fill.sh prints them over the translation 46aa888c7acdc897… (all of the seat's roots in one cut). By AI agents, Wed Nov 11 2026. No macro, syntax, notation, axiom, sorry.
-/
import Derived.Test.YtlpginalgdbopaaChecked
import GoSem.Claim
import GoSem.ClaimJoined
import GoSem.ClaimMapViews
import Derived.JoinedTies
import Derived.KernelRfl
namespace Go.Proofs.Ytlpginalgdbopaa
/- THE CELL 'sum', in the pinned program and in every row, IS THE sha256 OF THE DUMP (.gsa) THAT YtlpginalgdbopaaProg.lean LOADS. Nothing in Lean hashes anything: it is a label: what it is worth is what the hold of that sum in a sandbox is worth. -/
noncomputable def Try.pinned : Pinned := { name := "ytlpginalgdbopaa", sum := "46aa888c7acdc8971fd4fef7708d34581529a606605182af52d3bca59e5b306a", checked := Try.checked }
namespace Rows
def none {H : Type} : Left H := { results := [], args := [] }

/-- 'laws.FnExactHeads': WHATEVER THE INPUT: true; the input reads as it did. -/
def fnExactHeadsSpec : ChangeSpec := { name := "fnExactHeads", fn := fun _ => fun
  | [d1, d2] => { results := [.lit (.bool true)], args := [d1, d2] }
  | _ => none }
def fnExactHeadsRow : OpenClaim := { program := "ytlpginalgdbopaa", sum := "46aa888c7acdc8971fd4fef7708d34581529a606605182af52d3bca59e5b306a", func := "loop.example/g00112/laws.FnExactHeads", spec := "fnExactHeads", apart := false }
def FnExactHeadsSaid : Prop := fnExactHeadsRow.holds Try.pinned (OpenSpec.ofChange fnExactHeadsSpec)

/-- ITS FALSE NEIGHBOUR: 'it returns false'. Refute it at one input. -/
def fnExactHeadsWrong : ChangeSpec := { name := "fnExactHeads", fn := fun _ => fun
  | [d1, d2] => { results := [.lit (.bool false)], args := [d1, d2] }
  | _ => none }
def FnExactHeadsWrongFalsely : Prop := fnExactHeadsRow.holds Try.pinned (OpenSpec.ofChange fnExactHeadsWrong)

/-- 'laws.FnExactTurnsFor': WHATEVER THE INPUT: true; the input reads as it did. -/
def fnExactTurnsForSpec : ChangeSpec := { name := "fnExactTurnsFor", fn := fun _ => fun
  | [d1, d2] => { results := [.lit (.bool true)], args := [d1, d2] }
  | _ => none }
def fnExactTurnsForRow : OpenClaim := { program := "ytlpginalgdbopaa", sum := "46aa888c7acdc8971fd4fef7708d34581529a606605182af52d3bca59e5b306a", func := "loop.example/g00112/laws.FnExactTurnsFor", spec := "fnExactTurnsFor", apart := false }
def FnExactTurnsForSaid : Prop := fnExactTurnsForRow.holds Try.pinned (OpenSpec.ofChange fnExactTurnsForSpec)

/-- ITS FALSE NEIGHBOUR: 'it returns false'. Refute it at one input. -/
def fnExactTurnsForWrong : ChangeSpec := { name := "fnExactTurnsFor", fn := fun _ => fun
  | [d1, d2] => { results := [.lit (.bool false)], args := [d1, d2] }
  | _ => none }
def FnExactTurnsForWrongFalsely : Prop := fnExactTurnsForRow.holds Try.pinned (OpenSpec.ofChange fnExactTurnsForWrong)

/-- 'laws.FnExactMix': WHATEVER THE INPUT: true; the input reads as it did. -/
def fnExactMixSpec : ChangeSpec := { name := "fnExactMix", fn := fun _ => fun
  | [d1, d2] => { results := [.lit (.bool true)], args := [d1, d2] }
  | _ => none }
def fnExactMixRow : OpenClaim := { program := "ytlpginalgdbopaa", sum := "46aa888c7acdc8971fd4fef7708d34581529a606605182af52d3bca59e5b306a", func := "loop.example/g00112/laws.FnExactMix", spec := "fnExactMix", unfollowed := true, recurses := true, apart := false }
def FnExactMixSaid : Prop := fnExactMixRow.holds Try.pinned (OpenSpec.ofChange fnExactMixSpec)

/-- ITS FALSE NEIGHBOUR: 'it returns false'. Refute it at one input. -/
def fnExactMixWrong : ChangeSpec := { name := "fnExactMix", fn := fun _ => fun
  | [d1, d2] => { results := [.lit (.bool false)], args := [d1, d2] }
  | _ => none }
def FnExactMixWrongFalsely : Prop := fnExactMixRow.holds Try.pinned (OpenSpec.ofChange fnExactMixWrong)

/-- 'laws.FnExactTurnAll': WHATEVER THE INPUT: true; the input reads as it did. -/
def fnExactTurnAllSpec : ChangeSpec := { name := "fnExactTurnAll", fn := fun _ => fun
  | [d1, d2, d3, d4] => { results := [.lit (.bool true)], args := [d1, d2, d3, d4] }
  | _ => none }
def fnExactTurnAllRow : OpenClaim := { program := "ytlpginalgdbopaa", sum := "46aa888c7acdc8971fd4fef7708d34581529a606605182af52d3bca59e5b306a", func := "loop.example/g00112/laws.FnExactTurnAll", spec := "fnExactTurnAll", apart := false }
def FnExactTurnAllSaid : Prop := fnExactTurnAllRow.holds Try.pinned (OpenSpec.ofChange fnExactTurnAllSpec)

/-- ITS FALSE NEIGHBOUR: 'it returns false'. Refute it at one input. -/
def fnExactTurnAllWrong : ChangeSpec := { name := "fnExactTurnAll", fn := fun _ => fun
  | [d1, d2, d3, d4] => { results := [.lit (.bool false)], args := [d1, d2, d3, d4] }
  | _ => none }
def FnExactTurnAllWrongFalsely : Prop := fnExactTurnAllRow.holds Try.pinned (OpenSpec.ofChange fnExactTurnAllWrong)

/-- 'laws.FnMixes': WHATEVER THE INPUT: true; the input reads as it did. -/
def fnMixesSpec : ChangeSpec := { name := "fnMixes", fn := fun _ => fun
  | [d] => { results := [.lit (.bool true)], args := [d] }
  | _ => none }
def fnMixesRow : OpenClaim := { program := "ytlpginalgdbopaa", sum := "46aa888c7acdc8971fd4fef7708d34581529a606605182af52d3bca59e5b306a", func := "loop.example/g00112/laws.FnMixes", spec := "fnMixes", unfollowed := true, recurses := true, apart := false }
def FnMixesSaid : Prop := fnMixesRow.holds Try.pinned (OpenSpec.ofChange fnMixesSpec)

/-- ITS FALSE NEIGHBOUR: 'it returns false'. Refute it at one input. -/
def fnMixesWrong : ChangeSpec := { name := "fnMixes", fn := fun _ => fun
  | [d] => { results := [.lit (.bool false)], args := [d] }
  | _ => none }
def FnMixesWrongFalsely : Prop := fnMixesRow.holds Try.pinned (OpenSpec.ofChange fnMixesWrong)

/-- 'laws.FnExactAttend': WHATEVER THE INPUT: true; the input reads as it did. -/
def fnExactAttendSpec : ChangeSpec := { name := "fnExactAttend", fn := fun _ => fun
  | [d1, d2, d3] => { results := [.lit (.bool true)], args := [d1, d2, d3] }
  | _ => none }
def fnExactAttendRow : OpenClaim := { program := "ytlpginalgdbopaa", sum := "46aa888c7acdc8971fd4fef7708d34581529a606605182af52d3bca59e5b306a", func := "loop.example/g00112/laws.FnExactAttend", spec := "fnExactAttend", unfollowed := true, recurses := true, apart := false }
def FnExactAttendSaid : Prop := fnExactAttendRow.holds Try.pinned (OpenSpec.ofChange fnExactAttendSpec)

/-- ITS FALSE NEIGHBOUR: 'it returns false'. Refute it at one input. -/
def fnExactAttendWrong : ChangeSpec := { name := "fnExactAttend", fn := fun _ => fun
  | [d1, d2, d3] => { results := [.lit (.bool false)], args := [d1, d2, d3] }
  | _ => none }
def FnExactAttendWrongFalsely : Prop := fnExactAttendRow.holds Try.pinned (OpenSpec.ofChange fnExactAttendWrong)

/-- 'laws.FnBlocks': WHATEVER THE INPUT: true; the input reads as it did. -/
def fnBlocksSpec : ChangeSpec := { name := "fnBlocks", fn := fun _ => fun
  | [d] => { results := [.lit (.bool true)], args := [d] }
  | _ => none }
def fnBlocksRow : OpenClaim := { program := "ytlpginalgdbopaa", sum := "46aa888c7acdc8971fd4fef7708d34581529a606605182af52d3bca59e5b306a", func := "loop.example/g00112/laws.FnBlocks", spec := "fnBlocks", unfollowed := true, recurses := true, apart := false }
def FnBlocksSaid : Prop := fnBlocksRow.holds Try.pinned (OpenSpec.ofChange fnBlocksSpec)

/-- ITS FALSE NEIGHBOUR: 'it returns false'. Refute it at one input. -/
def fnBlocksWrong : ChangeSpec := { name := "fnBlocks", fn := fun _ => fun
  | [d] => { results := [.lit (.bool false)], args := [d] }
  | _ => none }
def FnBlocksWrongFalsely : Prop := fnBlocksRow.holds Try.pinned (OpenSpec.ofChange fnBlocksWrong)

/-- 'laws.FnForkTables': WHATEVER THE INPUT: true; the input reads as it did. -/
def fnForkTablesSpec : ChangeSpec := { name := "fnForkTables", fn := fun _ => fun
  | [d] => { results := [.lit (.bool true)], args := [d] }
  | _ => none }
def fnForkTablesRow : OpenClaim := { program := "ytlpginalgdbopaa", sum := "46aa888c7acdc8971fd4fef7708d34581529a606605182af52d3bca59e5b306a", func := "loop.example/g00112/laws.FnForkTables", spec := "fnForkTables", unfollowed := true, recurses := true, apart := false }
def FnForkTablesSaid : Prop := fnForkTablesRow.holds Try.pinned (OpenSpec.ofChange fnForkTablesSpec)

/-- ITS FALSE NEIGHBOUR: 'it returns false'. Refute it at one input. -/
def fnForkTablesWrong : ChangeSpec := { name := "fnForkTables", fn := fun _ => fun
  | [d] => { results := [.lit (.bool false)], args := [d] }
  | _ => none }
def FnForkTablesWrongFalsely : Prop := fnForkTablesRow.holds Try.pinned (OpenSpec.ofChange fnForkTablesWrong)

/-- 'laws.FnExactCellsOf': WHATEVER THE INPUT: true; the input reads as it did. -/
def fnExactCellsOfSpec : ChangeSpec := { name := "fnExactCellsOf", fn := fun _ => fun
  | [d1, d2] => { results := [.lit (.bool true)], args := [d1, d2] }
  | _ => none }
def fnExactCellsOfRow : OpenClaim := { program := "ytlpginalgdbopaa", sum := "46aa888c7acdc8971fd4fef7708d34581529a606605182af52d3bca59e5b306a", func := "loop.example/g00112/laws.FnExactCellsOf", spec := "fnExactCellsOf", unfollowed := true, recurses := true, apart := false }
def FnExactCellsOfSaid : Prop := fnExactCellsOfRow.holds Try.pinned (OpenSpec.ofChange fnExactCellsOfSpec)

/-- ITS FALSE NEIGHBOUR: 'it returns false'. Refute it at one input. -/
def fnExactCellsOfWrong : ChangeSpec := { name := "fnExactCellsOf", fn := fun _ => fun
  | [d1, d2] => { results := [.lit (.bool false)], args := [d1, d2] }
  | _ => none }
def FnExactCellsOfWrongFalsely : Prop := fnExactCellsOfRow.holds Try.pinned (OpenSpec.ofChange fnExactCellsOfWrong)

/-- 'laws.FnExactDropTable': WHATEVER THE INPUT: true; the input reads as it did. -/
def fnExactDropTableSpec : ChangeSpec := { name := "fnExactDropTable", fn := fun _ => fun
  | [d1, d2] => { results := [.lit (.bool true)], args := [d1, d2] }
  | _ => none }
def fnExactDropTableRow : OpenClaim := { program := "ytlpginalgdbopaa", sum := "46aa888c7acdc8971fd4fef7708d34581529a606605182af52d3bca59e5b306a", func := "loop.example/g00112/laws.FnExactDropTable", spec := "fnExactDropTable", unfollowed := true, recurses := true, apart := false }
def FnExactDropTableSaid : Prop := fnExactDropTableRow.holds Try.pinned (OpenSpec.ofChange fnExactDropTableSpec)

/-- ITS FALSE NEIGHBOUR: 'it returns false'. Refute it at one input. -/
def fnExactDropTableWrong : ChangeSpec := { name := "fnExactDropTable", fn := fun _ => fun
  | [d1, d2] => { results := [.lit (.bool false)], args := [d1, d2] }
  | _ => none }
def FnExactDropTableWrongFalsely : Prop := fnExactDropTableRow.holds Try.pinned (OpenSpec.ofChange fnExactDropTableWrong)

/-- 'laws.FnExactForkTable': WHATEVER THE INPUT: true; the input reads as it did. -/
def fnExactForkTableSpec : ChangeSpec := { name := "fnExactForkTable", fn := fun _ => fun
  | [d1, d2] => { results := [.lit (.bool true)], args := [d1, d2] }
  | _ => none }
def fnExactForkTableRow : OpenClaim := { program := "ytlpginalgdbopaa", sum := "46aa888c7acdc8971fd4fef7708d34581529a606605182af52d3bca59e5b306a", func := "loop.example/g00112/laws.FnExactForkTable", spec := "fnExactForkTable", unfollowed := true, recurses := true, apart := false }
def FnExactForkTableSaid : Prop := fnExactForkTableRow.holds Try.pinned (OpenSpec.ofChange fnExactForkTableSpec)

/-- ITS FALSE NEIGHBOUR: 'it returns false'. Refute it at one input. -/
def fnExactForkTableWrong : ChangeSpec := { name := "fnExactForkTable", fn := fun _ => fun
  | [d1, d2] => { results := [.lit (.bool false)], args := [d1, d2] }
  | _ => none }
def FnExactForkTableWrongFalsely : Prop := fnExactForkTableRow.holds Try.pinned (OpenSpec.ofChange fnExactForkTableWrong)

/-- 'laws.FnExactAddCell': WHATEVER THE INPUT: true; the input reads as it did. -/
def fnExactAddCellSpec : ChangeSpec := { name := "fnExactAddCell", fn := fun _ => fun
  | [d1, d2, d3] => { results := [.lit (.bool true)], args := [d1, d2, d3] }
  | _ => none }
def fnExactAddCellRow : OpenClaim := { program := "ytlpginalgdbopaa", sum := "46aa888c7acdc8971fd4fef7708d34581529a606605182af52d3bca59e5b306a", func := "loop.example/g00112/laws.FnExactAddCell", spec := "fnExactAddCell", unfollowed := true, recurses := true, apart := false }
def FnExactAddCellSaid : Prop := fnExactAddCellRow.holds Try.pinned (OpenSpec.ofChange fnExactAddCellSpec)

/-- ITS FALSE NEIGHBOUR: 'it returns false'. Refute it at one input. -/
def fnExactAddCellWrong : ChangeSpec := { name := "fnExactAddCell", fn := fun _ => fun
  | [d1, d2, d3] => { results := [.lit (.bool false)], args := [d1, d2, d3] }
  | _ => none }
def FnExactAddCellWrongFalsely : Prop := fnExactAddCellRow.holds Try.pinned (OpenSpec.ofChange fnExactAddCellWrong)

/- THE SECOND FORM. 'bulk': how many values and letters a reading holds, each counted each time it is reached (what is shared counts as often as it is met; a slice's spare places count too). A statement '..UptoSaid' is the law's where the arguments, and the package variables that the reading takes, are together of bulk at most 1048576: NARROWER than '..Said'. Prove '..Said' where nothing that the law and all that it calls make is longer than what came in: it says more and counts as full. Else prove '..UptoSaid'. A law counts once. -/
mutual
def uptoBulk {H : Type} : DataW H → Nat
  | .lit (.string bytes) => bytes.length + 1
  | .lit _ => 1
  | .nil => 1
  | .ptr d => uptoBulk d + 1
  | .slice elems spare => uptoBulkAll elems + uptoBulkAll spare + 1
  | .agg parts => uptoBulkAll parts + 1
  | .iface _ d => uptoBulk d + 1
  | .map entries => uptoBulkEntries entries + 1
  | .held _ => 1
def uptoBulkAll {H : Type} : List (DataW H) → Nat
  | [] => 0
  | d :: r => uptoBulk d + uptoBulkAll r
def uptoBulkEntries {H : Type} : List (Lit × DataW H) → Nat
  | [] => 0
  | x :: r => uptoBulkEntry x + uptoBulkEntries r
def uptoBulkEntry {H : Type} : Lit × DataW H → Nat
  | (.string bytes, d) => bytes.length + uptoBulk d + 1
  | (_, d) => uptoBulk d + 1
 end
def uptoSmall : (H : Type) → List (DataW H) → Bool := fun _ ds => decide (uptoBulkAll ds ≤ 1048576)
def OpenSpec.upto (s : _root_.Go.ChangeSpec) : _root_.Go.OpenSpec := { _root_.Go.OpenSpec.ofChange s with cond := some uptoSmall }

/-- 'laws.FnExactHeads', WHERE WHAT IT READS IS OF BULK AT MOST 1048576: true; the input reads as it did. -/
def fnExactHeadsUptoRow : OpenClaim := { program := "ytlpginalgdbopaa", sum := "46aa888c7acdc8971fd4fef7708d34581529a606605182af52d3bca59e5b306a", func := "loop.example/g00112/laws.FnExactHeads", spec := "fnExactHeads", apart := false, narrowed := true }
def FnExactHeadsUptoSaid : Prop := fnExactHeadsUptoRow.holds Try.pinned (OpenSpec.upto fnExactHeadsSpec)

/-- 'laws.FnExactTurnsFor', WHERE WHAT IT READS IS OF BULK AT MOST 1048576: true; the input reads as it did. -/
def fnExactTurnsForUptoRow : OpenClaim := { program := "ytlpginalgdbopaa", sum := "46aa888c7acdc8971fd4fef7708d34581529a606605182af52d3bca59e5b306a", func := "loop.example/g00112/laws.FnExactTurnsFor", spec := "fnExactTurnsFor", apart := false, narrowed := true }
def FnExactTurnsForUptoSaid : Prop := fnExactTurnsForUptoRow.holds Try.pinned (OpenSpec.upto fnExactTurnsForSpec)

/-- 'laws.FnExactMix', WHERE WHAT IT READS IS OF BULK AT MOST 1048576: true; the input reads as it did. -/
def fnExactMixUptoRow : OpenClaim := { program := "ytlpginalgdbopaa", sum := "46aa888c7acdc8971fd4fef7708d34581529a606605182af52d3bca59e5b306a", func := "loop.example/g00112/laws.FnExactMix", spec := "fnExactMix", unfollowed := true, recurses := true, apart := false, narrowed := true }
def FnExactMixUptoSaid : Prop := fnExactMixUptoRow.holds Try.pinned (OpenSpec.upto fnExactMixSpec)

/-- 'laws.FnExactTurnAll', WHERE WHAT IT READS IS OF BULK AT MOST 1048576: true; the input reads as it did. -/
def fnExactTurnAllUptoRow : OpenClaim := { program := "ytlpginalgdbopaa", sum := "46aa888c7acdc8971fd4fef7708d34581529a606605182af52d3bca59e5b306a", func := "loop.example/g00112/laws.FnExactTurnAll", spec := "fnExactTurnAll", apart := false, narrowed := true }
def FnExactTurnAllUptoSaid : Prop := fnExactTurnAllUptoRow.holds Try.pinned (OpenSpec.upto fnExactTurnAllSpec)

/-- 'laws.FnMixes', WHERE WHAT IT READS IS OF BULK AT MOST 1048576: true; the input reads as it did. -/
def fnMixesUptoRow : OpenClaim := { program := "ytlpginalgdbopaa", sum := "46aa888c7acdc8971fd4fef7708d34581529a606605182af52d3bca59e5b306a", func := "loop.example/g00112/laws.FnMixes", spec := "fnMixes", unfollowed := true, recurses := true, apart := false, narrowed := true }
def FnMixesUptoSaid : Prop := fnMixesUptoRow.holds Try.pinned (OpenSpec.upto fnMixesSpec)

/-- 'laws.FnExactAttend', WHERE WHAT IT READS IS OF BULK AT MOST 1048576: true; the input reads as it did. -/
def fnExactAttendUptoRow : OpenClaim := { program := "ytlpginalgdbopaa", sum := "46aa888c7acdc8971fd4fef7708d34581529a606605182af52d3bca59e5b306a", func := "loop.example/g00112/laws.FnExactAttend", spec := "fnExactAttend", unfollowed := true, recurses := true, apart := false, narrowed := true }
def FnExactAttendUptoSaid : Prop := fnExactAttendUptoRow.holds Try.pinned (OpenSpec.upto fnExactAttendSpec)

/-- 'laws.FnBlocks', WHERE WHAT IT READS IS OF BULK AT MOST 1048576: true; the input reads as it did. -/
def fnBlocksUptoRow : OpenClaim := { program := "ytlpginalgdbopaa", sum := "46aa888c7acdc8971fd4fef7708d34581529a606605182af52d3bca59e5b306a", func := "loop.example/g00112/laws.FnBlocks", spec := "fnBlocks", unfollowed := true, recurses := true, apart := false, narrowed := true }
def FnBlocksUptoSaid : Prop := fnBlocksUptoRow.holds Try.pinned (OpenSpec.upto fnBlocksSpec)

/-- 'laws.FnForkTables', WHERE WHAT IT READS IS OF BULK AT MOST 1048576: true; the input reads as it did. -/
def fnForkTablesUptoRow : OpenClaim := { program := "ytlpginalgdbopaa", sum := "46aa888c7acdc8971fd4fef7708d34581529a606605182af52d3bca59e5b306a", func := "loop.example/g00112/laws.FnForkTables", spec := "fnForkTables", unfollowed := true, recurses := true, apart := false, narrowed := true }
def FnForkTablesUptoSaid : Prop := fnForkTablesUptoRow.holds Try.pinned (OpenSpec.upto fnForkTablesSpec)

/-- 'laws.FnExactCellsOf', WHERE WHAT IT READS IS OF BULK AT MOST 1048576: true; the input reads as it did. -/
def fnExactCellsOfUptoRow : OpenClaim := { program := "ytlpginalgdbopaa", sum := "46aa888c7acdc8971fd4fef7708d34581529a606605182af52d3bca59e5b306a", func := "loop.example/g00112/laws.FnExactCellsOf", spec := "fnExactCellsOf", unfollowed := true, recurses := true, apart := false, narrowed := true }
def FnExactCellsOfUptoSaid : Prop := fnExactCellsOfUptoRow.holds Try.pinned (OpenSpec.upto fnExactCellsOfSpec)

/-- 'laws.FnExactDropTable', WHERE WHAT IT READS IS OF BULK AT MOST 1048576: true; the input reads as it did. -/
def fnExactDropTableUptoRow : OpenClaim := { program := "ytlpginalgdbopaa", sum := "46aa888c7acdc8971fd4fef7708d34581529a606605182af52d3bca59e5b306a", func := "loop.example/g00112/laws.FnExactDropTable", spec := "fnExactDropTable", unfollowed := true, recurses := true, apart := false, narrowed := true }
def FnExactDropTableUptoSaid : Prop := fnExactDropTableUptoRow.holds Try.pinned (OpenSpec.upto fnExactDropTableSpec)

/-- 'laws.FnExactForkTable', WHERE WHAT IT READS IS OF BULK AT MOST 1048576: true; the input reads as it did. -/
def fnExactForkTableUptoRow : OpenClaim := { program := "ytlpginalgdbopaa", sum := "46aa888c7acdc8971fd4fef7708d34581529a606605182af52d3bca59e5b306a", func := "loop.example/g00112/laws.FnExactForkTable", spec := "fnExactForkTable", unfollowed := true, recurses := true, apart := false, narrowed := true }
def FnExactForkTableUptoSaid : Prop := fnExactForkTableUptoRow.holds Try.pinned (OpenSpec.upto fnExactForkTableSpec)

/-- 'laws.FnExactAddCell', WHERE WHAT IT READS IS OF BULK AT MOST 1048576: true; the input reads as it did. -/
def fnExactAddCellUptoRow : OpenClaim := { program := "ytlpginalgdbopaa", sum := "46aa888c7acdc8971fd4fef7708d34581529a606605182af52d3bca59e5b306a", func := "loop.example/g00112/laws.FnExactAddCell", spec := "fnExactAddCell", unfollowed := true, recurses := true, apart := false, narrowed := true }
def FnExactAddCellUptoSaid : Prop := fnExactAddCellUptoRow.holds Try.pinned (OpenSpec.upto fnExactAddCellSpec)

end Rows
end Go.Proofs.Ytlpginalgdbopaa
