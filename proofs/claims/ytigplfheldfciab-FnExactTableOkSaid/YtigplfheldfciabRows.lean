/-
  No cell of these rows narrows 'for every input' (looked for: loops, veiled, ifaces, maps, wideKeys, modest, calm, conditions, laid).
  DERIVED. THE GIVEN ROWS OF THIS SEAT. 11 by the template 'for every input the law returns true; each argument reads behind the call as it read before'; 0 by the template 'total and deterministic' (their statements: YtigplfheldfciabTotals.lean).
  GIVEN WITH THE SEED: the statements are not yours to turn. If you find one false, say at which input.
  Laid BY PROGRAM, IN A SANDBOX (cutbox-rows.mjs): the forced cells as the released guide's own fill.sh prints them over the translation 07fa3286b519119e… (all of the seat's roots in one cut). By AI agents, Wed Nov 11 2026. No macro, syntax, notation, axiom, sorry.
-/
import Derived.Test.YtigplfheldfciabChecked
import GoSem.Claim
import GoSem.ClaimJoined
import GoSem.ClaimMapViews
import Derived.JoinedTies
import Derived.KernelRfl
namespace Go.Proofs.Ytigplfheldfciab
/- THE CELL 'sum', in the pinned program and in every row, IS THE sha256 OF THE DUMP (.gsa) THAT YtigplfheldfciabProg.lean LOADS. Nothing in Lean hashes anything: it is a label: what it is worth is what the hold of that sum in a sandbox is worth. -/
noncomputable def Try.pinned : Pinned := { name := "ytigplfheldfciab", sum := "07fa3286b519119ed0fee0d82b7c6ee1ef54170c04c6eefac0431cda1e3147b0", checked := Try.checked }
namespace Rows
def none {H : Type} : Left H := { results := [], args := [] }

/-- 'laws.FnExactStoreOk': WHATEVER THE INPUT: true; the input reads as it did. -/
def fnExactStoreOkSpec : ChangeSpec := { name := "fnExactStoreOk", fn := fun _ => fun
  | [d] => { results := [.lit (.bool true)], args := [d] }
  | _ => none }
def fnExactStoreOkRow : OpenClaim := { program := "ytigplfheldfciab", sum := "07fa3286b519119ed0fee0d82b7c6ee1ef54170c04c6eefac0431cda1e3147b0", func := "loop.example/g00112/laws.FnExactStoreOk", spec := "fnExactStoreOk", unfollowed := true, recurses := true, apart := false }
def FnExactStoreOkSaid : Prop := fnExactStoreOkRow.holds Try.pinned (OpenSpec.ofChange fnExactStoreOkSpec)

/-- ITS FALSE NEIGHBOUR: 'it returns false'. Refute it at one input. -/
def fnExactStoreOkWrong : ChangeSpec := { name := "fnExactStoreOk", fn := fun _ => fun
  | [d] => { results := [.lit (.bool false)], args := [d] }
  | _ => none }
def FnExactStoreOkWrongFalsely : Prop := fnExactStoreOkRow.holds Try.pinned (OpenSpec.ofChange fnExactStoreOkWrong)

/-- 'laws.FnExactTableOk': WHATEVER THE INPUT: true; the input reads as it did. -/
def fnExactTableOkSpec : ChangeSpec := { name := "fnExactTableOk", fn := fun _ => fun
  | [d1, d2] => { results := [.lit (.bool true)], args := [d1, d2] }
  | _ => none }
def fnExactTableOkRow : OpenClaim := { program := "ytigplfheldfciab", sum := "07fa3286b519119ed0fee0d82b7c6ee1ef54170c04c6eefac0431cda1e3147b0", func := "loop.example/g00112/laws.FnExactTableOk", spec := "fnExactTableOk", unfollowed := true, recurses := true, apart := false }
def FnExactTableOkSaid : Prop := fnExactTableOkRow.holds Try.pinned (OpenSpec.ofChange fnExactTableOkSpec)

/-- ITS FALSE NEIGHBOUR: 'it returns false'. Refute it at one input. -/
def fnExactTableOkWrong : ChangeSpec := { name := "fnExactTableOk", fn := fun _ => fun
  | [d1, d2] => { results := [.lit (.bool false)], args := [d1, d2] }
  | _ => none }
def FnExactTableOkWrongFalsely : Prop := fnExactTableOkRow.holds Try.pinned (OpenSpec.ofChange fnExactTableOkWrong)

/-- 'laws.FnExactCellsOf': WHATEVER THE INPUT: true; the input reads as it did. -/
def fnExactCellsOfSpec : ChangeSpec := { name := "fnExactCellsOf", fn := fun _ => fun
  | [d1, d2] => { results := [.lit (.bool true)], args := [d1, d2] }
  | _ => none }
def fnExactCellsOfRow : OpenClaim := { program := "ytigplfheldfciab", sum := "07fa3286b519119ed0fee0d82b7c6ee1ef54170c04c6eefac0431cda1e3147b0", func := "loop.example/g00112/laws.FnExactCellsOf", spec := "fnExactCellsOf", unfollowed := true, recurses := true, apart := false }
def FnExactCellsOfSaid : Prop := fnExactCellsOfRow.holds Try.pinned (OpenSpec.ofChange fnExactCellsOfSpec)

/-- ITS FALSE NEIGHBOUR: 'it returns false'. Refute it at one input. -/
def fnExactCellsOfWrong : ChangeSpec := { name := "fnExactCellsOf", fn := fun _ => fun
  | [d1, d2] => { results := [.lit (.bool false)], args := [d1, d2] }
  | _ => none }
def FnExactCellsOfWrongFalsely : Prop := fnExactCellsOfRow.holds Try.pinned (OpenSpec.ofChange fnExactCellsOfWrong)

/-- 'laws.FnExactDropTable': WHATEVER THE INPUT: true; the input reads as it did. -/
def fnExactDropTableSpec : ChangeSpec := { name := "fnExactDropTable", fn := fun _ => fun
  | [d1, d2] => { results := [.lit (.bool true)], args := [d1, d2] }
  | _ => none }
def fnExactDropTableRow : OpenClaim := { program := "ytigplfheldfciab", sum := "07fa3286b519119ed0fee0d82b7c6ee1ef54170c04c6eefac0431cda1e3147b0", func := "loop.example/g00112/laws.FnExactDropTable", spec := "fnExactDropTable", unfollowed := true, recurses := true, apart := false }
def FnExactDropTableSaid : Prop := fnExactDropTableRow.holds Try.pinned (OpenSpec.ofChange fnExactDropTableSpec)

/-- ITS FALSE NEIGHBOUR: 'it returns false'. Refute it at one input. -/
def fnExactDropTableWrong : ChangeSpec := { name := "fnExactDropTable", fn := fun _ => fun
  | [d1, d2] => { results := [.lit (.bool false)], args := [d1, d2] }
  | _ => none }
def FnExactDropTableWrongFalsely : Prop := fnExactDropTableRow.holds Try.pinned (OpenSpec.ofChange fnExactDropTableWrong)

/-- 'laws.FnExactForkTable': WHATEVER THE INPUT: true; the input reads as it did. -/
def fnExactForkTableSpec : ChangeSpec := { name := "fnExactForkTable", fn := fun _ => fun
  | [d1, d2] => { results := [.lit (.bool true)], args := [d1, d2] }
  | _ => none }
def fnExactForkTableRow : OpenClaim := { program := "ytigplfheldfciab", sum := "07fa3286b519119ed0fee0d82b7c6ee1ef54170c04c6eefac0431cda1e3147b0", func := "loop.example/g00112/laws.FnExactForkTable", spec := "fnExactForkTable", unfollowed := true, recurses := true, apart := false }
def FnExactForkTableSaid : Prop := fnExactForkTableRow.holds Try.pinned (OpenSpec.ofChange fnExactForkTableSpec)

/-- ITS FALSE NEIGHBOUR: 'it returns false'. Refute it at one input. -/
def fnExactForkTableWrong : ChangeSpec := { name := "fnExactForkTable", fn := fun _ => fun
  | [d1, d2] => { results := [.lit (.bool false)], args := [d1, d2] }
  | _ => none }
def FnExactForkTableWrongFalsely : Prop := fnExactForkTableRow.holds Try.pinned (OpenSpec.ofChange fnExactForkTableWrong)

/-- 'laws.FnExactAddCell': WHATEVER THE INPUT: true; the input reads as it did. -/
def fnExactAddCellSpec : ChangeSpec := { name := "fnExactAddCell", fn := fun _ => fun
  | [d1, d2, d3] => { results := [.lit (.bool true)], args := [d1, d2, d3] }
  | _ => none }
def fnExactAddCellRow : OpenClaim := { program := "ytigplfheldfciab", sum := "07fa3286b519119ed0fee0d82b7c6ee1ef54170c04c6eefac0431cda1e3147b0", func := "loop.example/g00112/laws.FnExactAddCell", spec := "fnExactAddCell", unfollowed := true, recurses := true, apart := false }
def FnExactAddCellSaid : Prop := fnExactAddCellRow.holds Try.pinned (OpenSpec.ofChange fnExactAddCellSpec)

/-- ITS FALSE NEIGHBOUR: 'it returns false'. Refute it at one input. -/
def fnExactAddCellWrong : ChangeSpec := { name := "fnExactAddCell", fn := fun _ => fun
  | [d1, d2, d3] => { results := [.lit (.bool false)], args := [d1, d2, d3] }
  | _ => none }
def FnExactAddCellWrongFalsely : Prop := fnExactAddCellRow.holds Try.pinned (OpenSpec.ofChange fnExactAddCellWrong)

/-- 'laws.FnBlocks': WHATEVER THE INPUT: true; the input reads as it did. -/
def fnBlocksSpec : ChangeSpec := { name := "fnBlocks", fn := fun _ => fun
  | [d] => { results := [.lit (.bool true)], args := [d] }
  | _ => none }
def fnBlocksRow : OpenClaim := { program := "ytigplfheldfciab", sum := "07fa3286b519119ed0fee0d82b7c6ee1ef54170c04c6eefac0431cda1e3147b0", func := "loop.example/g00112/laws.FnBlocks", spec := "fnBlocks", unfollowed := true, recurses := true, apart := false }
def FnBlocksSaid : Prop := fnBlocksRow.holds Try.pinned (OpenSpec.ofChange fnBlocksSpec)

/-- ITS FALSE NEIGHBOUR: 'it returns false'. Refute it at one input. -/
def fnBlocksWrong : ChangeSpec := { name := "fnBlocks", fn := fun _ => fun
  | [d] => { results := [.lit (.bool false)], args := [d] }
  | _ => none }
def FnBlocksWrongFalsely : Prop := fnBlocksRow.holds Try.pinned (OpenSpec.ofChange fnBlocksWrong)

/-- 'laws.FnForkTables': WHATEVER THE INPUT: true; the input reads as it did. -/
def fnForkTablesSpec : ChangeSpec := { name := "fnForkTables", fn := fun _ => fun
  | [d] => { results := [.lit (.bool true)], args := [d] }
  | _ => none }
def fnForkTablesRow : OpenClaim := { program := "ytigplfheldfciab", sum := "07fa3286b519119ed0fee0d82b7c6ee1ef54170c04c6eefac0431cda1e3147b0", func := "loop.example/g00112/laws.FnForkTables", spec := "fnForkTables", unfollowed := true, recurses := true, apart := false }
def FnForkTablesSaid : Prop := fnForkTablesRow.holds Try.pinned (OpenSpec.ofChange fnForkTablesSpec)

/-- ITS FALSE NEIGHBOUR: 'it returns false'. Refute it at one input. -/
def fnForkTablesWrong : ChangeSpec := { name := "fnForkTables", fn := fun _ => fun
  | [d] => { results := [.lit (.bool false)], args := [d] }
  | _ => none }
def FnForkTablesWrongFalsely : Prop := fnForkTablesRow.holds Try.pinned (OpenSpec.ofChange fnForkTablesWrong)

/-- 'laws.FnExactVocab': WHATEVER THE INPUT: true; the input reads as it did. -/
def fnExactVocabSpec : ChangeSpec := { name := "fnExactVocab", fn := fun _ => fun
  | [d] => { results := [.lit (.bool true)], args := [d] }
  | _ => none }
def fnExactVocabRow : OpenClaim := { program := "ytigplfheldfciab", sum := "07fa3286b519119ed0fee0d82b7c6ee1ef54170c04c6eefac0431cda1e3147b0", func := "loop.example/g00112/laws.FnExactVocab", spec := "fnExactVocab", apart := false }
def FnExactVocabSaid : Prop := fnExactVocabRow.holds Try.pinned (OpenSpec.ofChange fnExactVocabSpec)

/-- ITS FALSE NEIGHBOUR: 'it returns false'. Refute it at one input. -/
def fnExactVocabWrong : ChangeSpec := { name := "fnExactVocab", fn := fun _ => fun
  | [d] => { results := [.lit (.bool false)], args := [d] }
  | _ => none }
def FnExactVocabWrongFalsely : Prop := fnExactVocabRow.holds Try.pinned (OpenSpec.ofChange fnExactVocabWrong)

/-- 'laws.FnExactLayerOk': WHATEVER THE INPUT: true; the input reads as it did. -/
def fnExactLayerOkSpec : ChangeSpec := { name := "fnExactLayerOk", fn := fun _ => fun
  | [d1, d2] => { results := [.lit (.bool true)], args := [d1, d2] }
  | _ => none }
def fnExactLayerOkRow : OpenClaim := { program := "ytigplfheldfciab", sum := "07fa3286b519119ed0fee0d82b7c6ee1ef54170c04c6eefac0431cda1e3147b0", func := "loop.example/g00112/laws.FnExactLayerOk", spec := "fnExactLayerOk", unfollowed := true, recurses := true, apart := false }
def FnExactLayerOkSaid : Prop := fnExactLayerOkRow.holds Try.pinned (OpenSpec.ofChange fnExactLayerOkSpec)

/-- ITS FALSE NEIGHBOUR: 'it returns false'. Refute it at one input. -/
def fnExactLayerOkWrong : ChangeSpec := { name := "fnExactLayerOk", fn := fun _ => fun
  | [d1, d2] => { results := [.lit (.bool false)], args := [d1, d2] }
  | _ => none }
def FnExactLayerOkWrongFalsely : Prop := fnExactLayerOkRow.holds Try.pinned (OpenSpec.ofChange fnExactLayerOkWrong)

/-- 'laws.FnExactModelOk': WHATEVER THE INPUT: true; the input reads as it did. -/
def fnExactModelOkSpec : ChangeSpec := { name := "fnExactModelOk", fn := fun _ => fun
  | [d] => { results := [.lit (.bool true)], args := [d] }
  | _ => none }
def fnExactModelOkRow : OpenClaim := { program := "ytigplfheldfciab", sum := "07fa3286b519119ed0fee0d82b7c6ee1ef54170c04c6eefac0431cda1e3147b0", func := "loop.example/g00112/laws.FnExactModelOk", spec := "fnExactModelOk", unfollowed := true, recurses := true, apart := false }
def FnExactModelOkSaid : Prop := fnExactModelOkRow.holds Try.pinned (OpenSpec.ofChange fnExactModelOkSpec)

/-- ITS FALSE NEIGHBOUR: 'it returns false'. Refute it at one input. -/
def fnExactModelOkWrong : ChangeSpec := { name := "fnExactModelOk", fn := fun _ => fun
  | [d] => { results := [.lit (.bool false)], args := [d] }
  | _ => none }
def FnExactModelOkWrongFalsely : Prop := fnExactModelOkRow.holds Try.pinned (OpenSpec.ofChange fnExactModelOkWrong)

/- THE SECOND FORM. 'bulk': how many values and letters a reading holds, each counted each time it is reached (what is shared counts as often as it is met; a slice's spare places count too). A statement '..UptoSaid' is the law's where the arguments, and the package variables that the reading takes, are together of bulk at most 1048576: NARROWER than '..Said'. Prove '..Said' where nothing that the law and all that it calls make is longer than what came in: it says more and counts as full. Else prove '..UptoSaid'. A law counts once. -/
mutual
def uptoBulk {H : Type} : DataW H → Nat
  | .lit (.string bytes) => bytes.length + 1
  | .lit _ => 1
  | .nil => 1
  | .ptr d => uptoBulk d + 1
  | .slice elems spare => uptoBulkAll elems + uptoBulkAll spare + 1
  | .agg parts => uptoBulkAll parts + 1
  | .iface _ d => uptoBulk d + 1
  | .map entries => uptoBulkEntries entries + 1
  | .held _ => 1
def uptoBulkAll {H : Type} : List (DataW H) → Nat
  | [] => 0
  | d :: r => uptoBulk d + uptoBulkAll r
def uptoBulkEntries {H : Type} : List (Lit × DataW H) → Nat
  | [] => 0
  | x :: r => uptoBulkEntry x + uptoBulkEntries r
def uptoBulkEntry {H : Type} : Lit × DataW H → Nat
  | (.string bytes, d) => bytes.length + uptoBulk d + 1
  | (_, d) => uptoBulk d + 1
 end
def uptoSmall : (H : Type) → List (DataW H) → Bool := fun _ ds => decide (uptoBulkAll ds ≤ 1048576)
def OpenSpec.upto (s : _root_.Go.ChangeSpec) : _root_.Go.OpenSpec := { _root_.Go.OpenSpec.ofChange s with cond := some uptoSmall }

/-- 'laws.FnExactStoreOk', WHERE WHAT IT READS IS OF BULK AT MOST 1048576: true; the input reads as it did. -/
def fnExactStoreOkUptoRow : OpenClaim := { program := "ytigplfheldfciab", sum := "07fa3286b519119ed0fee0d82b7c6ee1ef54170c04c6eefac0431cda1e3147b0", func := "loop.example/g00112/laws.FnExactStoreOk", spec := "fnExactStoreOk", unfollowed := true, recurses := true, apart := false, narrowed := true }
def FnExactStoreOkUptoSaid : Prop := fnExactStoreOkUptoRow.holds Try.pinned (OpenSpec.upto fnExactStoreOkSpec)

/-- 'laws.FnExactTableOk', WHERE WHAT IT READS IS OF BULK AT MOST 1048576: true; the input reads as it did. -/
def fnExactTableOkUptoRow : OpenClaim := { program := "ytigplfheldfciab", sum := "07fa3286b519119ed0fee0d82b7c6ee1ef54170c04c6eefac0431cda1e3147b0", func := "loop.example/g00112/laws.FnExactTableOk", spec := "fnExactTableOk", unfollowed := true, recurses := true, apart := false, narrowed := true }
def FnExactTableOkUptoSaid : Prop := fnExactTableOkUptoRow.holds Try.pinned (OpenSpec.upto fnExactTableOkSpec)

/-- 'laws.FnExactCellsOf', WHERE WHAT IT READS IS OF BULK AT MOST 1048576: true; the input reads as it did. -/
def fnExactCellsOfUptoRow : OpenClaim := { program := "ytigplfheldfciab", sum := "07fa3286b519119ed0fee0d82b7c6ee1ef54170c04c6eefac0431cda1e3147b0", func := "loop.example/g00112/laws.FnExactCellsOf", spec := "fnExactCellsOf", unfollowed := true, recurses := true, apart := false, narrowed := true }
def FnExactCellsOfUptoSaid : Prop := fnExactCellsOfUptoRow.holds Try.pinned (OpenSpec.upto fnExactCellsOfSpec)

/-- 'laws.FnExactDropTable', WHERE WHAT IT READS IS OF BULK AT MOST 1048576: true; the input reads as it did. -/
def fnExactDropTableUptoRow : OpenClaim := { program := "ytigplfheldfciab", sum := "07fa3286b519119ed0fee0d82b7c6ee1ef54170c04c6eefac0431cda1e3147b0", func := "loop.example/g00112/laws.FnExactDropTable", spec := "fnExactDropTable", unfollowed := true, recurses := true, apart := false, narrowed := true }
def FnExactDropTableUptoSaid : Prop := fnExactDropTableUptoRow.holds Try.pinned (OpenSpec.upto fnExactDropTableSpec)

/-- 'laws.FnExactForkTable', WHERE WHAT IT READS IS OF BULK AT MOST 1048576: true; the input reads as it did. -/
def fnExactForkTableUptoRow : OpenClaim := { program := "ytigplfheldfciab", sum := "07fa3286b519119ed0fee0d82b7c6ee1ef54170c04c6eefac0431cda1e3147b0", func := "loop.example/g00112/laws.FnExactForkTable", spec := "fnExactForkTable", unfollowed := true, recurses := true, apart := false, narrowed := true }
def FnExactForkTableUptoSaid : Prop := fnExactForkTableUptoRow.holds Try.pinned (OpenSpec.upto fnExactForkTableSpec)

/-- 'laws.FnExactAddCell', WHERE WHAT IT READS IS OF BULK AT MOST 1048576: true; the input reads as it did. -/
def fnExactAddCellUptoRow : OpenClaim := { program := "ytigplfheldfciab", sum := "07fa3286b519119ed0fee0d82b7c6ee1ef54170c04c6eefac0431cda1e3147b0", func := "loop.example/g00112/laws.FnExactAddCell", spec := "fnExactAddCell", unfollowed := true, recurses := true, apart := false, narrowed := true }
def FnExactAddCellUptoSaid : Prop := fnExactAddCellUptoRow.holds Try.pinned (OpenSpec.upto fnExactAddCellSpec)

/-- 'laws.FnBlocks', WHERE WHAT IT READS IS OF BULK AT MOST 1048576: true; the input reads as it did. -/
def fnBlocksUptoRow : OpenClaim := { program := "ytigplfheldfciab", sum := "07fa3286b519119ed0fee0d82b7c6ee1ef54170c04c6eefac0431cda1e3147b0", func := "loop.example/g00112/laws.FnBlocks", spec := "fnBlocks", unfollowed := true, recurses := true, apart := false, narrowed := true }
def FnBlocksUptoSaid : Prop := fnBlocksUptoRow.holds Try.pinned (OpenSpec.upto fnBlocksSpec)

/-- 'laws.FnForkTables', WHERE WHAT IT READS IS OF BULK AT MOST 1048576: true; the input reads as it did. -/
def fnForkTablesUptoRow : OpenClaim := { program := "ytigplfheldfciab", sum := "07fa3286b519119ed0fee0d82b7c6ee1ef54170c04c6eefac0431cda1e3147b0", func := "loop.example/g00112/laws.FnForkTables", spec := "fnForkTables", unfollowed := true, recurses := true, apart := false, narrowed := true }
def FnForkTablesUptoSaid : Prop := fnForkTablesUptoRow.holds Try.pinned (OpenSpec.upto fnForkTablesSpec)

/-- 'laws.FnExactVocab', WHERE WHAT IT READS IS OF BULK AT MOST 1048576: true; the input reads as it did. -/
def fnExactVocabUptoRow : OpenClaim := { program := "ytigplfheldfciab", sum := "07fa3286b519119ed0fee0d82b7c6ee1ef54170c04c6eefac0431cda1e3147b0", func := "loop.example/g00112/laws.FnExactVocab", spec := "fnExactVocab", apart := false, narrowed := true }
def FnExactVocabUptoSaid : Prop := fnExactVocabUptoRow.holds Try.pinned (OpenSpec.upto fnExactVocabSpec)

/-- 'laws.FnExactLayerOk', WHERE WHAT IT READS IS OF BULK AT MOST 1048576: true; the input reads as it did. -/
def fnExactLayerOkUptoRow : OpenClaim := { program := "ytigplfheldfciab", sum := "07fa3286b519119ed0fee0d82b7c6ee1ef54170c04c6eefac0431cda1e3147b0", func := "loop.example/g00112/laws.FnExactLayerOk", spec := "fnExactLayerOk", unfollowed := true, recurses := true, apart := false, narrowed := true }
def FnExactLayerOkUptoSaid : Prop := fnExactLayerOkUptoRow.holds Try.pinned (OpenSpec.upto fnExactLayerOkSpec)

/-- 'laws.FnExactModelOk', WHERE WHAT IT READS IS OF BULK AT MOST 1048576: true; the input reads as it did. -/
def fnExactModelOkUptoRow : OpenClaim := { program := "ytigplfheldfciab", sum := "07fa3286b519119ed0fee0d82b7c6ee1ef54170c04c6eefac0431cda1e3147b0", func := "loop.example/g00112/laws.FnExactModelOk", spec := "fnExactModelOk", unfollowed := true, recurses := true, apart := false, narrowed := true }
def FnExactModelOkUptoSaid : Prop := fnExactModelOkUptoRow.holds Try.pinned (OpenSpec.upto fnExactModelOkSpec)

end Rows
end Go.Proofs.Ytigplfheldfciab
