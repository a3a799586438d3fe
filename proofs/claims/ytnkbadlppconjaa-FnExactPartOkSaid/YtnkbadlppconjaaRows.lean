/-
  No cell of these rows narrows 'for every input' (looked for: loops, veiled, ifaces, maps, wideKeys, modest, calm, conditions, laid).
  DERIVED. THE GIVEN ROWS OF THIS SEAT. 12 by the template 'for every input the law returns true; each argument reads behind the call as it read before'; 0 by the template 'total and deterministic' (their statements: YtnkbadlppconjaaTotals.lean).
  GIVEN WITH THE SEED: the statements are not yours to turn. If you find one false, say at which input.
  Laid BY PROGRAM, IN A SANDBOX (cutbox-rows.mjs): the forced cells as the released guide's own fill.sh prints them over the translation dbc3fe32cd4e7d31… (all of the seat's roots in one cut). By AI agents, Wed Nov 11 2026. No macro, syntax, notation, axiom, sorry.
-/
import Derived.Test.YtnkbadlppconjaaChecked
import GoSem.Claim
import GoSem.ClaimJoined
import GoSem.ClaimMapViews
import Derived.JoinedTies
import Derived.KernelRfl
namespace Go.Proofs.Ytnkbadlppconjaa
/- THE CELL 'sum', in the pinned program and in every row, IS THE sha256 OF THE DUMP (.gsa) THAT YtnkbadlppconjaaProg.lean LOADS. Nothing in Lean hashes anything: it is a label: what it is worth is what the hold of that sum in a sandbox is worth. -/
noncomputable def Try.pinned : Pinned := { name := "ytnkbadlppconjaa", sum := "dbc3fe32cd4e7d31b118edc1e3176123d07c7eb8d506c619952a6c3bd0ba5663", checked := Try.checked }
namespace Rows
def none {H : Type} : Left H := { results := [], args := [] }

/-- 'laws.FnExactNeedPages': WHATEVER THE INPUT: true; the input reads as it did. -/
def fnExactNeedPagesSpec : ChangeSpec := { name := "fnExactNeedPages", fn := fun _ => fun
  | [d] => { results := [.lit (.bool true)], args := [d] }
  | _ => none }
def fnExactNeedPagesRow : OpenClaim := { program := "ytnkbadlppconjaa", sum := "dbc3fe32cd4e7d31b118edc1e3176123d07c7eb8d506c619952a6c3bd0ba5663", func := "loop.example/g00112/laws.FnExactNeedPages", spec := "fnExactNeedPages", apart := false }
def FnExactNeedPagesSaid : Prop := fnExactNeedPagesRow.holds Try.pinned (OpenSpec.ofChange fnExactNeedPagesSpec)

/-- ITS FALSE NEIGHBOUR: 'it returns false'. Refute it at one input. -/
def fnExactNeedPagesWrong : ChangeSpec := { name := "fnExactNeedPages", fn := fun _ => fun
  | [d] => { results := [.lit (.bool false)], args := [d] }
  | _ => none }
def FnExactNeedPagesWrongFalsely : Prop := fnExactNeedPagesRow.holds Try.pinned (OpenSpec.ofChange fnExactNeedPagesWrong)

/-- 'laws.FnExactGainOk': WHATEVER THE INPUT: true; the input reads as it did. -/
def fnExactGainOkSpec : ChangeSpec := { name := "fnExactGainOk", fn := fun _ => fun
  | [d1, d2] => { results := [.lit (.bool true)], args := [d1, d2] }
  | _ => none }
def fnExactGainOkRow : OpenClaim := { program := "ytnkbadlppconjaa", sum := "dbc3fe32cd4e7d31b118edc1e3176123d07c7eb8d506c619952a6c3bd0ba5663", func := "loop.example/g00112/laws.FnExactGainOk", spec := "fnExactGainOk", unfollowed := true, recurses := true, apart := false }
def FnExactGainOkSaid : Prop := fnExactGainOkRow.holds Try.pinned (OpenSpec.ofChange fnExactGainOkSpec)

/-- ITS FALSE NEIGHBOUR: 'it returns false'. Refute it at one input. -/
def fnExactGainOkWrong : ChangeSpec := { name := "fnExactGainOk", fn := fun _ => fun
  | [d1, d2] => { results := [.lit (.bool false)], args := [d1, d2] }
  | _ => none }
def FnExactGainOkWrongFalsely : Prop := fnExactGainOkRow.holds Try.pinned (OpenSpec.ofChange fnExactGainOkWrong)

/-- 'laws.FnExactPoolOk': WHATEVER THE INPUT: true; the input reads as it did. -/
def fnExactPoolOkSpec : ChangeSpec := { name := "fnExactPoolOk", fn := fun _ => fun
  | [d] => { results := [.lit (.bool true)], args := [d] }
  | _ => none }
def fnExactPoolOkRow : OpenClaim := { program := "ytnkbadlppconjaa", sum := "dbc3fe32cd4e7d31b118edc1e3176123d07c7eb8d506c619952a6c3bd0ba5663", func := "loop.example/g00112/laws.FnExactPoolOk", spec := "fnExactPoolOk", unfollowed := true, recurses := true, apart := false }
def FnExactPoolOkSaid : Prop := fnExactPoolOkRow.holds Try.pinned (OpenSpec.ofChange fnExactPoolOkSpec)

/-- ITS FALSE NEIGHBOUR: 'it returns false'. Refute it at one input. -/
def fnExactPoolOkWrong : ChangeSpec := { name := "fnExactPoolOk", fn := fun _ => fun
  | [d] => { results := [.lit (.bool false)], args := [d] }
  | _ => none }
def FnExactPoolOkWrongFalsely : Prop := fnExactPoolOkRow.holds Try.pinned (OpenSpec.ofChange fnExactPoolOkWrong)

/-- 'laws.FnExactFreePages': WHATEVER THE INPUT: true; the input reads as it did. -/
def fnExactFreePagesSpec : ChangeSpec := { name := "fnExactFreePages", fn := fun _ => fun
  | [d] => { results := [.lit (.bool true)], args := [d] }
  | _ => none }
def fnExactFreePagesRow : OpenClaim := { program := "ytnkbadlppconjaa", sum := "dbc3fe32cd4e7d31b118edc1e3176123d07c7eb8d506c619952a6c3bd0ba5663", func := "loop.example/g00112/laws.FnExactFreePages", spec := "fnExactFreePages", unfollowed := true, recurses := true, apart := false }
def FnExactFreePagesSaid : Prop := fnExactFreePagesRow.holds Try.pinned (OpenSpec.ofChange fnExactFreePagesSpec)

/-- ITS FALSE NEIGHBOUR: 'it returns false'. Refute it at one input. -/
def fnExactFreePagesWrong : ChangeSpec := { name := "fnExactFreePages", fn := fun _ => fun
  | [d] => { results := [.lit (.bool false)], args := [d] }
  | _ => none }
def FnExactFreePagesWrongFalsely : Prop := fnExactFreePagesRow.holds Try.pinned (OpenSpec.ofChange fnExactFreePagesWrong)

/-- 'laws.FnExactScore': WHATEVER THE INPUT: true; the input reads as it did. -/
def fnExactScoreSpec : ChangeSpec := { name := "fnExactScore", fn := fun _ => fun
  | [d1, d2] => { results := [.lit (.bool true)], args := [d1, d2] }
  | _ => none }
def fnExactScoreRow : OpenClaim := { program := "ytnkbadlppconjaa", sum := "dbc3fe32cd4e7d31b118edc1e3176123d07c7eb8d506c619952a6c3bd0ba5663", func := "loop.example/g00112/laws.FnExactScore", spec := "fnExactScore", unfollowed := true, recurses := true, apart := false }
def FnExactScoreSaid : Prop := fnExactScoreRow.holds Try.pinned (OpenSpec.ofChange fnExactScoreSpec)

/-- ITS FALSE NEIGHBOUR: 'it returns false'. Refute it at one input. -/
def fnExactScoreWrong : ChangeSpec := { name := "fnExactScore", fn := fun _ => fun
  | [d1, d2] => { results := [.lit (.bool false)], args := [d1, d2] }
  | _ => none }
def FnExactScoreWrongFalsely : Prop := fnExactScoreRow.holds Try.pinned (OpenSpec.ofChange fnExactScoreWrong)

/-- 'laws.FnHeads': WHATEVER THE INPUT: true; the input reads as it did. -/
def fnHeadsSpec : ChangeSpec := { name := "fnHeads", fn := fun _ => fun
  | [d] => { results := [.lit (.bool true)], args := [d] }
  | _ => none }
def fnHeadsRow : OpenClaim := { program := "ytnkbadlppconjaa", sum := "dbc3fe32cd4e7d31b118edc1e3176123d07c7eb8d506c619952a6c3bd0ba5663", func := "loop.example/g00112/laws.FnHeads", spec := "fnHeads", apart := false }
def FnHeadsSaid : Prop := fnHeadsRow.holds Try.pinned (OpenSpec.ofChange fnHeadsSpec)

/-- ITS FALSE NEIGHBOUR: 'it returns false'. Refute it at one input. -/
def fnHeadsWrong : ChangeSpec := { name := "fnHeads", fn := fun _ => fun
  | [d] => { results := [.lit (.bool false)], args := [d] }
  | _ => none }
def FnHeadsWrongFalsely : Prop := fnHeadsRow.holds Try.pinned (OpenSpec.ofChange fnHeadsWrong)

/-- 'laws.FnExactHeads': WHATEVER THE INPUT: true; the input reads as it did. -/
def fnExactHeadsSpec : ChangeSpec := { name := "fnExactHeads", fn := fun _ => fun
  | [d1, d2] => { results := [.lit (.bool true)], args := [d1, d2] }
  | _ => none }
def fnExactHeadsRow : OpenClaim := { program := "ytnkbadlppconjaa", sum := "dbc3fe32cd4e7d31b118edc1e3176123d07c7eb8d506c619952a6c3bd0ba5663", func := "loop.example/g00112/laws.FnExactHeads", spec := "fnExactHeads", apart := false }
def FnExactHeadsSaid : Prop := fnExactHeadsRow.holds Try.pinned (OpenSpec.ofChange fnExactHeadsSpec)

/-- ITS FALSE NEIGHBOUR: 'it returns false'. Refute it at one input. -/
def fnExactHeadsWrong : ChangeSpec := { name := "fnExactHeads", fn := fun _ => fun
  | [d1, d2] => { results := [.lit (.bool false)], args := [d1, d2] }
  | _ => none }
def FnExactHeadsWrongFalsely : Prop := fnExactHeadsRow.holds Try.pinned (OpenSpec.ofChange fnExactHeadsWrong)

/-- 'laws.FnExactAddState': WHATEVER THE INPUT: true; the input reads as it did. -/
def fnExactAddStateSpec : ChangeSpec := { name := "fnExactAddState", fn := fun _ => fun
  | [d1, d2] => { results := [.lit (.bool true)], args := [d1, d2] }
  | _ => none }
def fnExactAddStateRow : OpenClaim := { program := "ytnkbadlppconjaa", sum := "dbc3fe32cd4e7d31b118edc1e3176123d07c7eb8d506c619952a6c3bd0ba5663", func := "loop.example/g00112/laws.FnExactAddState", spec := "fnExactAddState", unfollowed := true, recurses := true, apart := false }
def FnExactAddStateSaid : Prop := fnExactAddStateRow.holds Try.pinned (OpenSpec.ofChange fnExactAddStateSpec)

/-- ITS FALSE NEIGHBOUR: 'it returns false'. Refute it at one input. -/
def fnExactAddStateWrong : ChangeSpec := { name := "fnExactAddState", fn := fun _ => fun
  | [d1, d2] => { results := [.lit (.bool false)], args := [d1, d2] }
  | _ => none }
def FnExactAddStateWrongFalsely : Prop := fnExactAddStateRow.holds Try.pinned (OpenSpec.ofChange fnExactAddStateWrong)

/-- 'laws.FnExactDropPage': WHATEVER THE INPUT: true; the input reads as it did. -/
def fnExactDropPageSpec : ChangeSpec := { name := "fnExactDropPage", fn := fun _ => fun
  | [d1, d2] => { results := [.lit (.bool true)], args := [d1, d2] }
  | _ => none }
def fnExactDropPageRow : OpenClaim := { program := "ytnkbadlppconjaa", sum := "dbc3fe32cd4e7d31b118edc1e3176123d07c7eb8d506c619952a6c3bd0ba5663", func := "loop.example/g00112/laws.FnExactDropPage", spec := "fnExactDropPage", unfollowed := true, recurses := true, apart := false }
def FnExactDropPageSaid : Prop := fnExactDropPageRow.holds Try.pinned (OpenSpec.ofChange fnExactDropPageSpec)

/-- ITS FALSE NEIGHBOUR: 'it returns false'. Refute it at one input. -/
def fnExactDropPageWrong : ChangeSpec := { name := "fnExactDropPage", fn := fun _ => fun
  | [d1, d2] => { results := [.lit (.bool false)], args := [d1, d2] }
  | _ => none }
def FnExactDropPageWrongFalsely : Prop := fnExactDropPageRow.holds Try.pinned (OpenSpec.ofChange fnExactDropPageWrong)

/-- 'laws.FnExactSharePage': WHATEVER THE INPUT: true; the input reads as it did. -/
def fnExactSharePageSpec : ChangeSpec := { name := "fnExactSharePage", fn := fun _ => fun
  | [d1, d2] => { results := [.lit (.bool true)], args := [d1, d2] }
  | _ => none }
def fnExactSharePageRow : OpenClaim := { program := "ytnkbadlppconjaa", sum := "dbc3fe32cd4e7d31b118edc1e3176123d07c7eb8d506c619952a6c3bd0ba5663", func := "loop.example/g00112/laws.FnExactSharePage", spec := "fnExactSharePage", unfollowed := true, recurses := true, apart := false }
def FnExactSharePageSaid : Prop := fnExactSharePageRow.holds Try.pinned (OpenSpec.ofChange fnExactSharePageSpec)

/-- ITS FALSE NEIGHBOUR: 'it returns false'. Refute it at one input. -/
def fnExactSharePageWrong : ChangeSpec := { name := "fnExactSharePage", fn := fun _ => fun
  | [d1, d2] => { results := [.lit (.bool false)], args := [d1, d2] }
  | _ => none }
def FnExactSharePageWrongFalsely : Prop := fnExactSharePageRow.holds Try.pinned (OpenSpec.ofChange fnExactSharePageWrong)

/-- 'laws.FnExactTakePage': WHATEVER THE INPUT: true; the input reads as it did. -/
def fnExactTakePageSpec : ChangeSpec := { name := "fnExactTakePage", fn := fun _ => fun
  | [d] => { results := [.lit (.bool true)], args := [d] }
  | _ => none }
def fnExactTakePageRow : OpenClaim := { program := "ytnkbadlppconjaa", sum := "dbc3fe32cd4e7d31b118edc1e3176123d07c7eb8d506c619952a6c3bd0ba5663", func := "loop.example/g00112/laws.FnExactTakePage", spec := "fnExactTakePage", unfollowed := true, recurses := true, apart := false }
def FnExactTakePageSaid : Prop := fnExactTakePageRow.holds Try.pinned (OpenSpec.ofChange fnExactTakePageSpec)

/-- ITS FALSE NEIGHBOUR: 'it returns false'. Refute it at one input. -/
def fnExactTakePageWrong : ChangeSpec := { name := "fnExactTakePage", fn := fun _ => fun
  | [d] => { results := [.lit (.bool false)], args := [d] }
  | _ => none }
def FnExactTakePageWrongFalsely : Prop := fnExactTakePageRow.holds Try.pinned (OpenSpec.ofChange fnExactTakePageWrong)

/-- 'laws.FnExactPartOk': WHATEVER THE INPUT: true; the input reads as it did. -/
def fnExactPartOkSpec : ChangeSpec := { name := "fnExactPartOk", fn := fun _ => fun
  | [d1, d2] => { results := [.lit (.bool true)], args := [d1, d2] }
  | _ => none }
def fnExactPartOkRow : OpenClaim := { program := "ytnkbadlppconjaa", sum := "dbc3fe32cd4e7d31b118edc1e3176123d07c7eb8d506c619952a6c3bd0ba5663", func := "loop.example/g00112/laws.FnExactPartOk", spec := "fnExactPartOk", unfollowed := true, recurses := true, apart := false }
def FnExactPartOkSaid : Prop := fnExactPartOkRow.holds Try.pinned (OpenSpec.ofChange fnExactPartOkSpec)

/-- ITS FALSE NEIGHBOUR: 'it returns false'. Refute it at one input. -/
def fnExactPartOkWrong : ChangeSpec := { name := "fnExactPartOk", fn := fun _ => fun
  | [d1, d2] => { results := [.lit (.bool false)], args := [d1, d2] }
  | _ => none }
def FnExactPartOkWrongFalsely : Prop := fnExactPartOkRow.holds Try.pinned (OpenSpec.ofChange fnExactPartOkWrong)

/- THE SECOND FORM. 'bulk': how many values and letters a reading holds, each counted each time it is reached (what is shared counts as often as it is met; a slice's spare places count too). A statement '..UptoSaid' is the law's where the arguments, and the package variables that the reading takes, are together of bulk at most 1048576: NARROWER than '..Said'. Prove '..Said' where nothing that the law and all that it calls make is longer than what came in: it says more and counts as full. Else prove '..UptoSaid'. A law counts once. -/
mutual
def uptoBulk {H : Type} : DataW H → Nat
  | .lit (.string bytes) => bytes.length + 1
  | .lit _ => 1
  | .nil => 1
  | .ptr d => uptoBulk d + 1
  | .slice elems spare => uptoBulkAll elems + uptoBulkAll spare + 1
  | .agg parts => uptoBulkAll parts + 1
  | .iface _ d => uptoBulk d + 1
  | .map entries => uptoBulkEntries entries + 1
  | .held _ => 1
def uptoBulkAll {H : Type} : List (DataW H) → Nat
  | [] => 0
  | d :: r => uptoBulk d + uptoBulkAll r
def uptoBulkEntries {H : Type} : List (Lit × DataW H) → Nat
  | [] => 0
  | x :: r => uptoBulkEntry x + uptoBulkEntries r
def uptoBulkEntry {H : Type} : Lit × DataW H → Nat
  | (.string bytes, d) => bytes.length + uptoBulk d + 1
  | (_, d) => uptoBulk d + 1
 end
def uptoSmall : (H : Type) → List (DataW H) → Bool := fun _ ds => decide (uptoBulkAll ds ≤ 1048576)
def OpenSpec.upto (s : _root_.Go.ChangeSpec) : _root_.Go.OpenSpec := { _root_.Go.OpenSpec.ofChange s with cond := some uptoSmall }

/-- 'laws.FnExactNeedPages', WHERE WHAT IT READS IS OF BULK AT MOST 1048576: true; the input reads as it did. -/
def fnExactNeedPagesUptoRow : OpenClaim := { program := "ytnkbadlppconjaa", sum := "dbc3fe32cd4e7d31b118edc1e3176123d07c7eb8d506c619952a6c3bd0ba5663", func := "loop.example/g00112/laws.FnExactNeedPages", spec := "fnExactNeedPages", apart := false, narrowed := true }
def FnExactNeedPagesUptoSaid : Prop := fnExactNeedPagesUptoRow.holds Try.pinned (OpenSpec.upto fnExactNeedPagesSpec)

/-- 'laws.FnExactGainOk', WHERE WHAT IT READS IS OF BULK AT MOST 1048576: true; the input reads as it did. -/
def fnExactGainOkUptoRow : OpenClaim := { program := "ytnkbadlppconjaa", sum := "dbc3fe32cd4e7d31b118edc1e3176123d07c7eb8d506c619952a6c3bd0ba5663", func := "loop.example/g00112/laws.FnExactGainOk", spec := "fnExactGainOk", unfollowed := true, recurses := true, apart := false, narrowed := true }
def FnExactGainOkUptoSaid : Prop := fnExactGainOkUptoRow.holds Try.pinned (OpenSpec.upto fnExactGainOkSpec)

/-- 'laws.FnExactPoolOk', WHERE WHAT IT READS IS OF BULK AT MOST 1048576: true; the input reads as it did. -/
def fnExactPoolOkUptoRow : OpenClaim := { program := "ytnkbadlppconjaa", sum := "dbc3fe32cd4e7d31b118edc1e3176123d07c7eb8d506c619952a6c3bd0ba5663", func := "loop.example/g00112/laws.FnExactPoolOk", spec := "fnExactPoolOk", unfollowed := true, recurses := true, apart := false, narrowed := true }
def FnExactPoolOkUptoSaid : Prop := fnExactPoolOkUptoRow.holds Try.pinned (OpenSpec.upto fnExactPoolOkSpec)

/-- 'laws.FnExactFreePages', WHERE WHAT IT READS IS OF BULK AT MOST 1048576: true; the input reads as it did. -/
def fnExactFreePagesUptoRow : OpenClaim := { program := "ytnkbadlppconjaa", sum := "dbc3fe32cd4e7d31b118edc1e3176123d07c7eb8d506c619952a6c3bd0ba5663", func := "loop.example/g00112/laws.FnExactFreePages", spec := "fnExactFreePages", unfollowed := true, recurses := true, apart := false, narrowed := true }
def FnExactFreePagesUptoSaid : Prop := fnExactFreePagesUptoRow.holds Try.pinned (OpenSpec.upto fnExactFreePagesSpec)

/-- 'laws.FnExactScore', WHERE WHAT IT READS IS OF BULK AT MOST 1048576: true; the input reads as it did. -/
def fnExactScoreUptoRow : OpenClaim := { program := "ytnkbadlppconjaa", sum := "dbc3fe32cd4e7d31b118edc1e3176123d07c7eb8d506c619952a6c3bd0ba5663", func := "loop.example/g00112/laws.FnExactScore", spec := "fnExactScore", unfollowed := true, recurses := true, apart := false, narrowed := true }
def FnExactScoreUptoSaid : Prop := fnExactScoreUptoRow.holds Try.pinned (OpenSpec.upto fnExactScoreSpec)

/-- 'laws.FnHeads', WHERE WHAT IT READS IS OF BULK AT MOST 1048576: true; the input reads as it did. -/
def fnHeadsUptoRow : OpenClaim := { program := "ytnkbadlppconjaa", sum := "dbc3fe32cd4e7d31b118edc1e3176123d07c7eb8d506c619952a6c3bd0ba5663", func := "loop.example/g00112/laws.FnHeads", spec := "fnHeads", apart := false, narrowed := true }
def FnHeadsUptoSaid : Prop := fnHeadsUptoRow.holds Try.pinned (OpenSpec.upto fnHeadsSpec)

/-- 'laws.FnExactHeads', WHERE WHAT IT READS IS OF BULK AT MOST 1048576: true; the input reads as it did. -/
def fnExactHeadsUptoRow : OpenClaim := { program := "ytnkbadlppconjaa", sum := "dbc3fe32cd4e7d31b118edc1e3176123d07c7eb8d506c619952a6c3bd0ba5663", func := "loop.example/g00112/laws.FnExactHeads", spec := "fnExactHeads", apart := false, narrowed := true }
def FnExactHeadsUptoSaid : Prop := fnExactHeadsUptoRow.holds Try.pinned (OpenSpec.upto fnExactHeadsSpec)

/-- 'laws.FnExactAddState', WHERE WHAT IT READS IS OF BULK AT MOST 1048576: true; the input reads as it did. -/
def fnExactAddStateUptoRow : OpenClaim := { program := "ytnkbadlppconjaa", sum := "dbc3fe32cd4e7d31b118edc1e3176123d07c7eb8d506c619952a6c3bd0ba5663", func := "loop.example/g00112/laws.FnExactAddState", spec := "fnExactAddState", unfollowed := true, recurses := true, apart := false, narrowed := true }
def FnExactAddStateUptoSaid : Prop := fnExactAddStateUptoRow.holds Try.pinned (OpenSpec.upto fnExactAddStateSpec)

/-- 'laws.FnExactDropPage', WHERE WHAT IT READS IS OF BULK AT MOST 1048576: true; the input reads as it did. -/
def fnExactDropPageUptoRow : OpenClaim := { program := "ytnkbadlppconjaa", sum := "dbc3fe32cd4e7d31b118edc1e3176123d07c7eb8d506c619952a6c3bd0ba5663", func := "loop.example/g00112/laws.FnExactDropPage", spec := "fnExactDropPage", unfollowed := true, recurses := true, apart := false, narrowed := true }
def FnExactDropPageUptoSaid : Prop := fnExactDropPageUptoRow.holds Try.pinned (OpenSpec.upto fnExactDropPageSpec)

/-- 'laws.FnExactSharePage', WHERE WHAT IT READS IS OF BULK AT MOST 1048576: true; the input reads as it did. -/
def fnExactSharePageUptoRow : OpenClaim := { program := "ytnkbadlppconjaa", sum := "dbc3fe32cd4e7d31b118edc1e3176123d07c7eb8d506c619952a6c3bd0ba5663", func := "loop.example/g00112/laws.FnExactSharePage", spec := "fnExactSharePage", unfollowed := true, recurses := true, apart := false, narrowed := true }
def FnExactSharePageUptoSaid : Prop := fnExactSharePageUptoRow.holds Try.pinned (OpenSpec.upto fnExactSharePageSpec)

/-- 'laws.FnExactTakePage', WHERE WHAT IT READS IS OF BULK AT MOST 1048576: true; the input reads as it did. -/
def fnExactTakePageUptoRow : OpenClaim := { program := "ytnkbadlppconjaa", sum := "dbc3fe32cd4e7d31b118edc1e3176123d07c7eb8d506c619952a6c3bd0ba5663", func := "loop.example/g00112/laws.FnExactTakePage", spec := "fnExactTakePage", unfollowed := true, recurses := true, apart := false, narrowed := true }
def FnExactTakePageUptoSaid : Prop := fnExactTakePageUptoRow.holds Try.pinned (OpenSpec.upto fnExactTakePageSpec)

/-- 'laws.FnExactPartOk', WHERE WHAT IT READS IS OF BULK AT MOST 1048576: true; the input reads as it did. -/
def fnExactPartOkUptoRow : OpenClaim := { program := "ytnkbadlppconjaa", sum := "dbc3fe32cd4e7d31b118edc1e3176123d07c7eb8d506c619952a6c3bd0ba5663", func := "loop.example/g00112/laws.FnExactPartOk", spec := "fnExactPartOk", unfollowed := true, recurses := true, apart := false, narrowed := true }
def FnExactPartOkUptoSaid : Prop := fnExactPartOkUptoRow.holds Try.pinned (OpenSpec.upto fnExactPartOkSpec)

end Rows
end Go.Proofs.Ytnkbadlppconjaa
