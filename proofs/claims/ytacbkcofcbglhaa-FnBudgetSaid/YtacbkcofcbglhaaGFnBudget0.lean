/- Functions that the statement reaches, as Lean functions, and the proof that a call of each comes to just its answer; written by this claim's own program. No conditions. -/
import Derived.Test.YtacbkcofcbglhaaPFnBudgetx0
import Derived.Test.YtacbkcofcbglhaaPFnBudgetx1
import Derived.Test.YtacbkcofcbglhaaPFnBudgetx2
import Derived.Test.YtacbkcofcbglhaaPFnBudgetx3
import Derived.Test.YtacbkcofcbglhaaPFnBudgetx4
import Derived.Test.YtacbkcofcbglhaaPFnBudgetx5
import Derived.Test.YtacbkcofcbglhaaPFnBudgetx6
import Derived.Test.YtacbkcofcbglhaaPFnBudgetx7
import Derived.Test.YtacbkcofcbglhaaPFnBudgetx8
import Derived.Test.YtacbkcofcbglhaaVFnBudget1
namespace Go.Proofs.Ytacbkcofcbglhaa.PFnBudget
open Go.RowKit Go.Proofs.YtacbkcofcbglhaaW.PrintWords Go.Proofs.YtacbkcofcbglhaaW.PrintLast Go.Proofs.YtacbkcofcbglhaaW.PrintMore Go.Proofs.Ytacbkcofcbglhaa.XW Go.Proofs.Ytacbkcofcbglhaa.XOp Go.Proofs.Ytacbkcofcbglhaa.XSt Go.Proofs.Ytacbkcofcbglhaa.XDraw
set_option linter.unusedVariables false
set_option linter.unusedSimpArgs false
set_option maxHeartbeats 4000000
set_option maxRecDepth 20000
structure S36 where
  f0 : Int
  f1 : List (List Int)
  f2 : List (List Int)
  f3 : Int
  f4 : Int
def k36 : Kd S36 := Kd.iso (Kd.pair (Kd.int .i64) (Kd.pair (Kd.slice 25 (Kd.slice 3 (Kd.int .i64))) (Kd.pair (Kd.slice 25 (Kd.slice 3 (Kd.int .i64))) (Kd.pair (Kd.int .i64) (Kd.int .i64))))) (fun x : S36 => (x.f0, x.f1, x.f2, x.f3, x.f4))
theorem k36_mk (w : World) (x : S36) {A1 : Option Addr} {c1 : Nat} (l1 : x.f1.length ≤ c1) (g1 : (Kd.slice 3 (Kd.int .i64)).C w A1 x.f1.length x.f1) {A2 : Option Addr} {c2 : Nat} (l2 : x.f2.length ≤ c2) (g2 : (Kd.slice 3 (Kd.int .i64)).C w A2 x.f2.length x.f2) : k36.K w x [.int .i64 x.f0, .slice A1 x.f1.length c1, .slice A2 x.f2.length c2, .int .i64 x.f3, .int .i64 x.f4] := ⟨[.int .i64 x.f0], [.slice A1 x.f1.length c1, .slice A2 x.f2.length c2, .int .i64 x.f3, .int .i64 x.f4], rfl, rfl, ⟨[.slice A1 x.f1.length c1], [.slice A2 x.f2.length c2, .int .i64 x.f3, .int .i64 x.f4], rfl, ⟨A1, c1, rfl, l1, g1⟩, ⟨[.slice A2 x.f2.length c2], [.int .i64 x.f3, .int .i64 x.f4], rfl, ⟨A2, c2, rfl, l2, g2⟩, ⟨[.int .i64 x.f3], [.int .i64 x.f4], rfl, rfl, rfl⟩⟩⟩⟩
structure S48 where
  f0 : List Int
  f1 : S36
  f2 : S36
  f3 : S36
  f4 : S36
  f5 : List Int
  f6 : S36
  f7 : S36
def k48 : Kd S48 := Kd.iso (Kd.pair (Kd.slice 3 (Kd.int .i64)) (Kd.pair k36 (Kd.pair k36 (Kd.pair k36 (Kd.pair k36 (Kd.pair (Kd.slice 3 (Kd.int .i64)) (Kd.pair k36 k36))))))) (fun x : S48 => (x.f0, x.f1, x.f2, x.f3, x.f4, x.f5, x.f6, x.f7))
theorem k48_mk (w : World) (x : S48) {A0 : Option Addr} {c0 : Nat} (l0 : x.f0.length ≤ c0) (g0 : (Kd.int .i64).C w A0 x.f0.length x.f0) {A2 : Option Addr} {c2 : Nat} (l2 : x.f1.f1.length ≤ c2) (g2 : (Kd.slice 3 (Kd.int .i64)).C w A2 x.f1.f1.length x.f1.f1) {A3 : Option Addr} {c3 : Nat} (l3 : x.f1.f2.length ≤ c3) (g3 : (Kd.slice 3 (Kd.int .i64)).C w A3 x.f1.f2.length x.f1.f2) {A7 : Option Addr} {c7 : Nat} (l7 : x.f2.f1.length ≤ c7) (g7 : (Kd.slice 3 (Kd.int .i64)).C w A7 x.f2.f1.length x.f2.f1) {A8 : Option Addr} {c8 : Nat} (l8 : x.f2.f2.length ≤ c8) (g8 : (Kd.slice 3 (Kd.int .i64)).C w A8 x.f2.f2.length x.f2.f2) {A12 : Option Addr} {c12 : Nat} (l12 : x.f3.f1.length ≤ c12) (g12 : (Kd.slice 3 (Kd.int .i64)).C w A12 x.f3.f1.length x.f3.f1) {A13 : Option Addr} {c13 : Nat} (l13 : x.f3.f2.length ≤ c13) (g13 : (Kd.slice 3 (Kd.int .i64)).C w A13 x.f3.f2.length x.f3.f2) {A17 : Option Addr} {c17 : Nat} (l17 : x.f4.f1.length ≤ c17) (g17 : (Kd.slice 3 (Kd.int .i64)).C w A17 x.f4.f1.length x.f4.f1) {A18 : Option Addr} {c18 : Nat} (l18 : x.f4.f2.length ≤ c18) (g18 : (Kd.slice 3 (Kd.int .i64)).C w A18 x.f4.f2.length x.f4.f2) {A21 : Option Addr} {c21 : Nat} (l21 : x.f5.length ≤ c21) (g21 : (Kd.int .i64).C w A21 x.f5.length x.f5) {A23 : Option Addr} {c23 : Nat} (l23 : x.f6.f1.length ≤ c23) (g23 : (Kd.slice 3 (Kd.int .i64)).C w A23 x.f6.f1.length x.f6.f1) {A24 : Option Addr} {c24 : Nat} (l24 : x.f6.f2.length ≤ c24) (g24 : (Kd.slice 3 (Kd.int .i64)).C w A24 x.f6.f2.length x.f6.f2) {A28 : Option Addr} {c28 : Nat} (l28 : x.f7.f1.length ≤ c28) (g28 : (Kd.slice 3 (Kd.int .i64)).C w A28 x.f7.f1.length x.f7.f1) {A29 : Option Addr} {c29 : Nat} (l29 : x.f7.f2.length ≤ c29) (g29 : (Kd.slice 3 (Kd.int .i64)).C w A29 x.f7.f2.length x.f7.f2) : k48.K w x [.slice A0 x.f0.length c0, .int .i64 x.f1.f0, .slice A2 x.f1.f1.length c2, .slice A3 x.f1.f2.length c3, .int .i64 x.f1.f3, .int .i64 x.f1.f4, .int .i64 x.f2.f0, .slice A7 x.f2.f1.length c7, .slice A8 x.f2.f2.length c8, .int .i64 x.f2.f3, .int .i64 x.f2.f4, .int .i64 x.f3.f0, .slice A12 x.f3.f1.length c12, .slice A13 x.f3.f2.length c13, .int .i64 x.f3.f3, .int .i64 x.f3.f4, .int .i64 x.f4.f0, .slice A17 x.f4.f1.length c17, .slice A18 x.f4.f2.length c18, .int .i64 x.f4.f3, .int .i64 x.f4.f4, .slice A21 x.f5.length c21, .int .i64 x.f6.f0, .slice A23 x.f6.f1.length c23, .slice A24 x.f6.f2.length c24, .int .i64 x.f6.f3, .int .i64 x.f6.f4, .int .i64 x.f7.f0, .slice A28 x.f7.f1.length c28, .slice A29 x.f7.f2.length c29, .int .i64 x.f7.f3, .int .i64 x.f7.f4] := ⟨[.slice A0 x.f0.length c0], [.int .i64 x.f1.f0, .slice A2 x.f1.f1.length c2, .slice A3 x.f1.f2.length c3, .int .i64 x.f1.f3, .int .i64 x.f1.f4, .int .i64 x.f2.f0, .slice A7 x.f2.f1.length c7, .slice A8 x.f2.f2.length c8, .int .i64 x.f2.f3, .int .i64 x.f2.f4, .int .i64 x.f3.f0, .slice A12 x.f3.f1.length c12, .slice A13 x.f3.f2.length c13, .int .i64 x.f3.f3, .int .i64 x.f3.f4, .int .i64 x.f4.f0, .slice A17 x.f4.f1.length c17, .slice A18 x.f4.f2.length c18, .int .i64 x.f4.f3, .int .i64 x.f4.f4, .slice A21 x.f5.length c21, .int .i64 x.f6.f0, .slice A23 x.f6.f1.length c23, .slice A24 x.f6.f2.length c24, .int .i64 x.f6.f3, .int .i64 x.f6.f4, .int .i64 x.f7.f0, .slice A28 x.f7.f1.length c28, .slice A29 x.f7.f2.length c29, .int .i64 x.f7.f3, .int .i64 x.f7.f4], rfl, ⟨A0, c0, rfl, l0, g0⟩, ⟨[.int .i64 x.f1.f0, .slice A2 x.f1.f1.length c2, .slice A3 x.f1.f2.length c3, .int .i64 x.f1.f3, .int .i64 x.f1.f4], [.int .i64 x.f2.f0, .slice A7 x.f2.f1.length c7, .slice A8 x.f2.f2.length c8, .int .i64 x.f2.f3, .int .i64 x.f2.f4, .int .i64 x.f3.f0, .slice A12 x.f3.f1.length c12, .slice A13 x.f3.f2.length c13, .int .i64 x.f3.f3, .int .i64 x.f3.f4, .int .i64 x.f4.f0, .slice A17 x.f4.f1.length c17, .slice A18 x.f4.f2.length c18, .int .i64 x.f4.f3, .int .i64 x.f4.f4, .slice A21 x.f5.length c21, .int .i64 x.f6.f0, .slice A23 x.f6.f1.length c23, .slice A24 x.f6.f2.length c24, .int .i64 x.f6.f3, .int .i64 x.f6.f4, .int .i64 x.f7.f0, .slice A28 x.f7.f1.length c28, .slice A29 x.f7.f2.length c29, .int .i64 x.f7.f3, .int .i64 x.f7.f4], rfl, ⟨[.int .i64 x.f1.f0], [.slice A2 x.f1.f1.length c2, .slice A3 x.f1.f2.length c3, .int .i64 x.f1.f3, .int .i64 x.f1.f4], rfl, rfl, ⟨[.slice A2 x.f1.f1.length c2], [.slice A3 x.f1.f2.length c3, .int .i64 x.f1.f3, .int .i64 x.f1.f4], rfl, ⟨A2, c2, rfl, l2, g2⟩, ⟨[.slice A3 x.f1.f2.length c3], [.int .i64 x.f1.f3, .int .i64 x.f1.f4], rfl, ⟨A3, c3, rfl, l3, g3⟩, ⟨[.int .i64 x.f1.f3], [.int .i64 x.f1.f4], rfl, rfl, rfl⟩⟩⟩⟩, ⟨[.int .i64 x.f2.f0, .slice A7 x.f2.f1.length c7, .slice A8 x.f2.f2.length c8, .int .i64 x.f2.f3, .int .i64 x.f2.f4], [.int .i64 x.f3.f0, .slice A12 x.f3.f1.length c12, .slice A13 x.f3.f2.length c13, .int .i64 x.f3.f3, .int .i64 x.f3.f4, .int .i64 x.f4.f0, .slice A17 x.f4.f1.length c17, .slice A18 x.f4.f2.length c18, .int .i64 x.f4.f3, .int .i64 x.f4.f4, .slice A21 x.f5.length c21, .int .i64 x.f6.f0, .slice A23 x.f6.f1.length c23, .slice A24 x.f6.f2.length c24, .int .i64 x.f6.f3, .int .i64 x.f6.f4, .int .i64 x.f7.f0, .slice A28 x.f7.f1.length c28, .slice A29 x.f7.f2.length c29, .int .i64 x.f7.f3, .int .i64 x.f7.f4], rfl, ⟨[.int .i64 x.f2.f0], [.slice A7 x.f2.f1.length c7, .slice A8 x.f2.f2.length c8, .int .i64 x.f2.f3, .int .i64 x.f2.f4], rfl, rfl, ⟨[.slice A7 x.f2.f1.length c7], [.slice A8 x.f2.f2.length c8, .int .i64 x.f2.f3, .int .i64 x.f2.f4], rfl, ⟨A7, c7, rfl, l7, g7⟩, ⟨[.slice A8 x.f2.f2.length c8], [.int .i64 x.f2.f3, .int .i64 x.f2.f4], rfl, ⟨A8, c8, rfl, l8, g8⟩, ⟨[.int .i64 x.f2.f3], [.int .i64 x.f2.f4], rfl, rfl, rfl⟩⟩⟩⟩, ⟨[.int .i64 x.f3.f0, .slice A12 x.f3.f1.length c12, .slice A13 x.f3.f2.length c13, .int .i64 x.f3.f3, .int .i64 x.f3.f4], [.int .i64 x.f4.f0, .slice A17 x.f4.f1.length c17, .slice A18 x.f4.f2.length c18, .int .i64 x.f4.f3, .int .i64 x.f4.f4, .slice A21 x.f5.length c21, .int .i64 x.f6.f0, .slice A23 x.f6.f1.length c23, .slice A24 x.f6.f2.length c24, .int .i64 x.f6.f3, .int .i64 x.f6.f4, .int .i64 x.f7.f0, .slice A28 x.f7.f1.length c28, .slice A29 x.f7.f2.length c29, .int .i64 x.f7.f3, .int .i64 x.f7.f4], rfl, ⟨[.int .i64 x.f3.f0], [.slice A12 x.f3.f1.length c12, .slice A13 x.f3.f2.length c13, .int .i64 x.f3.f3, .int .i64 x.f3.f4], rfl, rfl, ⟨[.slice A12 x.f3.f1.length c12], [.slice A13 x.f3.f2.length c13, .int .i64 x.f3.f3, .int .i64 x.f3.f4], rfl, ⟨A12, c12, rfl, l12, g12⟩, ⟨[.slice A13 x.f3.f2.length c13], [.int .i64 x.f3.f3, .int .i64 x.f3.f4], rfl, ⟨A13, c13, rfl, l13, g13⟩, ⟨[.int .i64 x.f3.f3], [.int .i64 x.f3.f4], rfl, rfl, rfl⟩⟩⟩⟩, ⟨[.int .i64 x.f4.f0, .slice A17 x.f4.f1.length c17, .slice A18 x.f4.f2.length c18, .int .i64 x.f4.f3, .int .i64 x.f4.f4], [.slice A21 x.f5.length c21, .int .i64 x.f6.f0, .slice A23 x.f6.f1.length c23, .slice A24 x.f6.f2.length c24, .int .i64 x.f6.f3, .int .i64 x.f6.f4, .int .i64 x.f7.f0, .slice A28 x.f7.f1.length c28, .slice A29 x.f7.f2.length c29, .int .i64 x.f7.f3, .int .i64 x.f7.f4], rfl, ⟨[.int .i64 x.f4.f0], [.slice A17 x.f4.f1.length c17, .slice A18 x.f4.f2.length c18, .int .i64 x.f4.f3, .int .i64 x.f4.f4], rfl, rfl, ⟨[.slice A17 x.f4.f1.length c17], [.slice A18 x.f4.f2.length c18, .int .i64 x.f4.f3, .int .i64 x.f4.f4], rfl, ⟨A17, c17, rfl, l17, g17⟩, ⟨[.slice A18 x.f4.f2.length c18], [.int .i64 x.f4.f3, .int .i64 x.f4.f4], rfl, ⟨A18, c18, rfl, l18, g18⟩, ⟨[.int .i64 x.f4.f3], [.int .i64 x.f4.f4], rfl, rfl, rfl⟩⟩⟩⟩, ⟨[.slice A21 x.f5.length c21], [.int .i64 x.f6.f0, .slice A23 x.f6.f1.length c23, .slice A24 x.f6.f2.length c24, .int .i64 x.f6.f3, .int .i64 x.f6.f4, .int .i64 x.f7.f0, .slice A28 x.f7.f1.length c28, .slice A29 x.f7.f2.length c29, .int .i64 x.f7.f3, .int .i64 x.f7.f4], rfl, ⟨A21, c21, rfl, l21, g21⟩, ⟨[.int .i64 x.f6.f0, .slice A23 x.f6.f1.length c23, .slice A24 x.f6.f2.length c24, .int .i64 x.f6.f3, .int .i64 x.f6.f4], [.int .i64 x.f7.f0, .slice A28 x.f7.f1.length c28, .slice A29 x.f7.f2.length c29, .int .i64 x.f7.f3, .int .i64 x.f7.f4], rfl, ⟨[.int .i64 x.f6.f0], [.slice A23 x.f6.f1.length c23, .slice A24 x.f6.f2.length c24, .int .i64 x.f6.f3, .int .i64 x.f6.f4], rfl, rfl, ⟨[.slice A23 x.f6.f1.length c23], [.slice A24 x.f6.f2.length c24, .int .i64 x.f6.f3, .int .i64 x.f6.f4], rfl, ⟨A23, c23, rfl, l23, g23⟩, ⟨[.slice A24 x.f6.f2.length c24], [.int .i64 x.f6.f3, .int .i64 x.f6.f4], rfl, ⟨A24, c24, rfl, l24, g24⟩, ⟨[.int .i64 x.f6.f3], [.int .i64 x.f6.f4], rfl, rfl, rfl⟩⟩⟩⟩, ⟨[.int .i64 x.f7.f0], [.slice A28 x.f7.f1.length c28, .slice A29 x.f7.f2.length c29, .int .i64 x.f7.f3, .int .i64 x.f7.f4], rfl, rfl, ⟨[.slice A28 x.f7.f1.length c28], [.slice A29 x.f7.f2.length c29, .int .i64 x.f7.f3, .int .i64 x.f7.f4], rfl, ⟨A28, c28, rfl, l28, g28⟩, ⟨[.slice A29 x.f7.f2.length c29], [.int .i64 x.f7.f3, .int .i64 x.f7.f4], rfl, ⟨A29, c29, rfl, l29, g29⟩, ⟨[.int .i64 x.f7.f3], [.int .i64 x.f7.f4], rfl, rfl, rfl⟩⟩⟩⟩⟩⟩⟩⟩⟩⟩⟩
structure S37 where
  f0 : List (List Int)
  f1 : List (List Int)
def k37 : Kd S37 := Kd.iso (Kd.pair (Kd.slice 25 (Kd.slice 3 (Kd.int .i64))) (Kd.slice 25 (Kd.slice 3 (Kd.int .i64)))) (fun x : S37 => (x.f0, x.f1))
structure S39 where
  f0 : Int
  f1 : Int
  f2 : Int
  f3 : List S112
  f4 : List (List Int)
  f5 : List S48
  f6 : List Int
  f7 : S36
  f8 : S37
def k39 : Kd S39 := Kd.iso (Kd.pair (Kd.int .i64) (Kd.pair (Kd.int .i64) (Kd.pair (Kd.int .i64) (Kd.pair (Kd.slice 112 k112) (Kd.pair (Kd.slice 25 (Kd.slice 3 (Kd.int .i64))) (Kd.pair (Kd.slice 48 k48) (Kd.pair (Kd.slice 3 (Kd.int .i64)) (Kd.pair k36 k37)))))))) (fun x : S39 => (x.f0, x.f1, x.f2, x.f3, x.f4, x.f5, x.f6, x.f7, x.f8))
theorem k39_mk (w : World) (x : S39) {A3 : Option Addr} {c3 : Nat} (l3 : x.f3.length ≤ c3) (g3 : k112.C w A3 x.f3.length x.f3) {A4 : Option Addr} {c4 : Nat} (l4 : x.f4.length ≤ c4) (g4 : (Kd.slice 3 (Kd.int .i64)).C w A4 x.f4.length x.f4) {A5 : Option Addr} {c5 : Nat} (l5 : x.f5.length ≤ c5) (g5 : k48.C w A5 x.f5.length x.f5) {A6 : Option Addr} {c6 : Nat} (l6 : x.f6.length ≤ c6) (g6 : (Kd.int .i64).C w A6 x.f6.length x.f6) {A8 : Option Addr} {c8 : Nat} (l8 : x.f7.f1.length ≤ c8) (g8 : (Kd.slice 3 (Kd.int .i64)).C w A8 x.f7.f1.length x.f7.f1) {A9 : Option Addr} {c9 : Nat} (l9 : x.f7.f2.length ≤ c9) (g9 : (Kd.slice 3 (Kd.int .i64)).C w A9 x.f7.f2.length x.f7.f2) {A12 : Option Addr} {c12 : Nat} (l12 : x.f8.f0.length ≤ c12) (g12 : (Kd.slice 3 (Kd.int .i64)).C w A12 x.f8.f0.length x.f8.f0) {A13 : Option Addr} {c13 : Nat} (l13 : x.f8.f1.length ≤ c13) (g13 : (Kd.slice 3 (Kd.int .i64)).C w A13 x.f8.f1.length x.f8.f1) : k39.K w x [.int .i64 x.f0, .int .i64 x.f1, .int .i64 x.f2, .slice A3 x.f3.length c3, .slice A4 x.f4.length c4, .slice A5 x.f5.length c5, .slice A6 x.f6.length c6, .int .i64 x.f7.f0, .slice A8 x.f7.f1.length c8, .slice A9 x.f7.f2.length c9, .int .i64 x.f7.f3, .int .i64 x.f7.f4, .slice A12 x.f8.f0.length c12, .slice A13 x.f8.f1.length c13] := ⟨[.int .i64 x.f0], [.int .i64 x.f1, .int .i64 x.f2, .slice A3 x.f3.length c3, .slice A4 x.f4.length c4, .slice A5 x.f5.length c5, .slice A6 x.f6.length c6, .int .i64 x.f7.f0, .slice A8 x.f7.f1.length c8, .slice A9 x.f7.f2.length c9, .int .i64 x.f7.f3, .int .i64 x.f7.f4, .slice A12 x.f8.f0.length c12, .slice A13 x.f8.f1.length c13], rfl, rfl, ⟨[.int .i64 x.f1], [.int .i64 x.f2, .slice A3 x.f3.length c3, .slice A4 x.f4.length c4, .slice A5 x.f5.length c5, .slice A6 x.f6.length c6, .int .i64 x.f7.f0, .slice A8 x.f7.f1.length c8, .slice A9 x.f7.f2.length c9, .int .i64 x.f7.f3, .int .i64 x.f7.f4, .slice A12 x.f8.f0.length c12, .slice A13 x.f8.f1.length c13], rfl, rfl, ⟨[.int .i64 x.f2], [.slice A3 x.f3.length c3, .slice A4 x.f4.length c4, .slice A5 x.f5.length c5, .slice A6 x.f6.length c6, .int .i64 x.f7.f0, .slice A8 x.f7.f1.length c8, .slice A9 x.f7.f2.length c9, .int .i64 x.f7.f3, .int .i64 x.f7.f4, .slice A12 x.f8.f0.length c12, .slice A13 x.f8.f1.length c13], rfl, rfl, ⟨[.slice A3 x.f3.length c3], [.slice A4 x.f4.length c4, .slice A5 x.f5.length c5, .slice A6 x.f6.length c6, .int .i64 x.f7.f0, .slice A8 x.f7.f1.length c8, .slice A9 x.f7.f2.length c9, .int .i64 x.f7.f3, .int .i64 x.f7.f4, .slice A12 x.f8.f0.length c12, .slice A13 x.f8.f1.length c13], rfl, ⟨A3, c3, rfl, l3, g3⟩, ⟨[.slice A4 x.f4.length c4], [.slice A5 x.f5.length c5, .slice A6 x.f6.length c6, .int .i64 x.f7.f0, .slice A8 x.f7.f1.length c8, .slice A9 x.f7.f2.length c9, .int .i64 x.f7.f3, .int .i64 x.f7.f4, .slice A12 x.f8.f0.length c12, .slice A13 x.f8.f1.length c13], rfl, ⟨A4, c4, rfl, l4, g4⟩, ⟨[.slice A5 x.f5.length c5], [.slice A6 x.f6.length c6, .int .i64 x.f7.f0, .slice A8 x.f7.f1.length c8, .slice A9 x.f7.f2.length c9, .int .i64 x.f7.f3, .int .i64 x.f7.f4, .slice A12 x.f8.f0.length c12, .slice A13 x.f8.f1.length c13], rfl, ⟨A5, c5, rfl, l5, g5⟩, ⟨[.slice A6 x.f6.length c6], [.int .i64 x.f7.f0, .slice A8 x.f7.f1.length c8, .slice A9 x.f7.f2.length c9, .int .i64 x.f7.f3, .int .i64 x.f7.f4, .slice A12 x.f8.f0.length c12, .slice A13 x.f8.f1.length c13], rfl, ⟨A6, c6, rfl, l6, g6⟩, ⟨[.int .i64 x.f7.f0, .slice A8 x.f7.f1.length c8, .slice A9 x.f7.f2.length c9, .int .i64 x.f7.f3, .int .i64 x.f7.f4], [.slice A12 x.f8.f0.length c12, .slice A13 x.f8.f1.length c13], rfl, ⟨[.int .i64 x.f7.f0], [.slice A8 x.f7.f1.length c8, .slice A9 x.f7.f2.length c9, .int .i64 x.f7.f3, .int .i64 x.f7.f4], rfl, rfl, ⟨[.slice A8 x.f7.f1.length c8], [.slice A9 x.f7.f2.length c9, .int .i64 x.f7.f3, .int .i64 x.f7.f4], rfl, ⟨A8, c8, rfl, l8, g8⟩, ⟨[.slice A9 x.f7.f2.length c9], [.int .i64 x.f7.f3, .int .i64 x.f7.f4], rfl, ⟨A9, c9, rfl, l9, g9⟩, ⟨[.int .i64 x.f7.f3], [.int .i64 x.f7.f4], rfl, rfl, rfl⟩⟩⟩⟩, ⟨[.slice A12 x.f8.f0.length c12], [.slice A13 x.f8.f1.length c13], rfl, ⟨A12, c12, rfl, l12, g12⟩, ⟨A13, c13, rfl, l13, g13⟩⟩⟩⟩⟩⟩⟩⟩⟩⟩
structure S140 where
  f0 : List Int
  f1 : Int
  f2 : Int
def o36 : S36 := ⟨0, [], [], 0, 0⟩
theorem h36 : Kd.Heap k36 := Kd.heap_iso _ (Kd.heap_pair (Kd.heap_int _) (Kd.heap_pair (Kd.heap_slice _ (Kd.heap_slice _ (Kd.heap_int _))) (Kd.heap_pair (Kd.heap_slice _ (Kd.heap_slice _ (Kd.heap_int _))) (Kd.heap_pair (Kd.heap_int _) (Kd.heap_int _)))))
def o112 : S112 := ⟨0, 0⟩
theorem h112 : Kd.Heap k112 := Kd.heap_iso _ (Kd.heap_pair (Kd.heap_int _) (Kd.heap_int _))
def o48 : S48 := ⟨[], o36, o36, o36, o36, [], o36, o36⟩
theorem h48 : Kd.Heap k48 := Kd.heap_iso _ (Kd.heap_pair (Kd.heap_slice _ (Kd.heap_int _)) (Kd.heap_pair h36 (Kd.heap_pair h36 (Kd.heap_pair h36 (Kd.heap_pair h36 (Kd.heap_pair (Kd.heap_slice _ (Kd.heap_int _)) (Kd.heap_pair h36 h36)))))))
def o37 : S37 := ⟨[], []⟩
theorem h37 : Kd.Heap k37 := Kd.heap_iso _ (Kd.heap_pair (Kd.heap_slice _ (Kd.heap_slice _ (Kd.heap_int _))) (Kd.heap_slice _ (Kd.heap_slice _ (Kd.heap_int _))))
def o39 : S39 := ⟨0, 0, 0, [], [], [], [], o36, o37⟩
theorem h39 : Kd.Heap k39 := Kd.heap_iso _ (Kd.heap_pair (Kd.heap_int _) (Kd.heap_pair (Kd.heap_int _) (Kd.heap_pair (Kd.heap_int _) (Kd.heap_pair (Kd.heap_slice _ h112) (Kd.heap_pair (Kd.heap_slice _ (Kd.heap_slice _ (Kd.heap_int _))) (Kd.heap_pair (Kd.heap_slice _ h48) (Kd.heap_pair (Kd.heap_slice _ (Kd.heap_int _)) (Kd.heap_pair h36 h37))))))))
def o140 : S140 := ⟨[], 0, 0⟩
theorem at36_0 {w : World} {x : S36} {cs : List Value} (h : AtK k36 w x cs 0) : AtK (Kd.int .i64) w x.f0 cs 0 := h.iso.fst
theorem at36_1 {w : World} {x : S36} {cs : List Value} (h : AtK k36 w x cs 0) : AtK (Kd.slice 25 (Kd.slice 3 (Kd.int .i64))) w x.f1 cs 1 := (h.iso.snd rfl).fst
theorem at36_2 {w : World} {x : S36} {cs : List Value} (h : AtK k36 w x cs 0) : AtK (Kd.slice 25 (Kd.slice 3 (Kd.int .i64))) w x.f2 cs 2 := ((h.iso.snd rfl).snd rfl).fst
theorem at36_3 {w : World} {x : S36} {cs : List Value} (h : AtK k36 w x cs 0) : AtK (Kd.int .i64) w x.f3 cs 3 := (((h.iso.snd rfl).snd rfl).snd rfl).fst
theorem at36_4 {w : World} {x : S36} {cs : List Value} (h : AtK k36 w x cs 0) : AtK (Kd.int .i64) w x.f4 cs 4 := ((((h.iso.snd rfl).snd rfl).snd rfl).snd rfl)
theorem at39_0 {w : World} {x : S39} {cs : List Value} (h : AtK k39 w x cs 0) : AtK (Kd.int .i64) w x.f0 cs 0 := h.iso.fst
theorem at39_1 {w : World} {x : S39} {cs : List Value} (h : AtK k39 w x cs 0) : AtK (Kd.int .i64) w x.f1 cs 1 := (h.iso.snd rfl).fst
theorem at39_2 {w : World} {x : S39} {cs : List Value} (h : AtK k39 w x cs 0) : AtK (Kd.int .i64) w x.f2 cs 2 := ((h.iso.snd rfl).snd rfl).fst
theorem at39_3 {w : World} {x : S39} {cs : List Value} (h : AtK k39 w x cs 0) : AtK (Kd.slice 112 k112) w x.f3 cs 3 := (((h.iso.snd rfl).snd rfl).snd rfl).fst
theorem at39_4 {w : World} {x : S39} {cs : List Value} (h : AtK k39 w x cs 0) : AtK (Kd.slice 25 (Kd.slice 3 (Kd.int .i64))) w x.f4 cs 4 := ((((h.iso.snd rfl).snd rfl).snd rfl).snd rfl).fst
theorem at39_5 {w : World} {x : S39} {cs : List Value} (h : AtK k39 w x cs 0) : AtK (Kd.slice 48 k48) w x.f5 cs 5 := (((((h.iso.snd rfl).snd rfl).snd rfl).snd rfl).snd rfl).fst
theorem at39_6 {w : World} {x : S39} {cs : List Value} (h : AtK k39 w x cs 0) : AtK (Kd.slice 3 (Kd.int .i64)) w x.f6 cs 6 := ((((((h.iso.snd rfl).snd rfl).snd rfl).snd rfl).snd rfl).snd rfl).fst
theorem at39_7 {w : World} {x : S39} {cs : List Value} (h : AtK k39 w x cs 0) : AtK (Kd.int .i64) w x.f7.f0 cs 7 := (((((((h.iso.snd rfl).snd rfl).snd rfl).snd rfl).snd rfl).snd rfl).snd rfl).fst.iso.fst
theorem at39_8 {w : World} {x : S39} {cs : List Value} (h : AtK k39 w x cs 0) : AtK (Kd.slice 25 (Kd.slice 3 (Kd.int .i64))) w x.f7.f1 cs 8 := ((((((((h.iso.snd rfl).snd rfl).snd rfl).snd rfl).snd rfl).snd rfl).snd rfl).fst.iso.snd rfl).fst
theorem at39_9 {w : World} {x : S39} {cs : List Value} (h : AtK k39 w x cs 0) : AtK (Kd.slice 25 (Kd.slice 3 (Kd.int .i64))) w x.f7.f2 cs 9 := (((((((((h.iso.snd rfl).snd rfl).snd rfl).snd rfl).snd rfl).snd rfl).snd rfl).fst.iso.snd rfl).snd rfl).fst
theorem at39_10 {w : World} {x : S39} {cs : List Value} (h : AtK k39 w x cs 0) : AtK (Kd.int .i64) w x.f7.f3 cs 10 := ((((((((((h.iso.snd rfl).snd rfl).snd rfl).snd rfl).snd rfl).snd rfl).snd rfl).fst.iso.snd rfl).snd rfl).snd rfl).fst
theorem at39_11 {w : World} {x : S39} {cs : List Value} (h : AtK k39 w x cs 0) : AtK (Kd.int .i64) w x.f7.f4 cs 11 := (((((((((((h.iso.snd rfl).snd rfl).snd rfl).snd rfl).snd rfl).snd rfl).snd rfl).fst.iso.snd rfl).snd rfl).snd rfl).snd rfl)
theorem at39_12 {w : World} {x : S39} {cs : List Value} (h : AtK k39 w x cs 0) : AtK (Kd.slice 25 (Kd.slice 3 (Kd.int .i64))) w x.f8.f0 cs 12 := ((((((((h.iso.snd rfl).snd rfl).snd rfl).snd rfl).snd rfl).snd rfl).snd rfl).snd rfl).iso.fst
theorem at39_13 {w : World} {x : S39} {cs : List Value} (h : AtK k39 w x cs 0) : AtK (Kd.slice 25 (Kd.slice 3 (Kd.int .i64))) w x.f8.f1 cs 13 := (((((((((h.iso.snd rfl).snd rfl).snd rfl).snd rfl).snd rfl).snd rfl).snd rfl).snd rfl).iso.snd rfl)
theorem at48_0 {w : World} {x : S48} {cs : List Value} (h : AtK k48 w x cs 0) : AtK (Kd.slice 3 (Kd.int .i64)) w x.f0 cs 0 := h.iso.fst
theorem at48_1 {w : World} {x : S48} {cs : List Value} (h : AtK k48 w x cs 0) : AtK (Kd.int .i64) w x.f1.f0 cs 1 := (h.iso.snd rfl).fst.iso.fst
theorem at48_2 {w : World} {x : S48} {cs : List Value} (h : AtK k48 w x cs 0) : AtK (Kd.slice 25 (Kd.slice 3 (Kd.int .i64))) w x.f1.f1 cs 2 := ((h.iso.snd rfl).fst.iso.snd rfl).fst
theorem at48_3 {w : World} {x : S48} {cs : List Value} (h : AtK k48 w x cs 0) : AtK (Kd.slice 25 (Kd.slice 3 (Kd.int .i64))) w x.f1.f2 cs 3 := (((h.iso.snd rfl).fst.iso.snd rfl).snd rfl).fst
theorem at48_4 {w : World} {x : S48} {cs : List Value} (h : AtK k48 w x cs 0) : AtK (Kd.int .i64) w x.f1.f3 cs 4 := ((((h.iso.snd rfl).fst.iso.snd rfl).snd rfl).snd rfl).fst
theorem at48_5 {w : World} {x : S48} {cs : List Value} (h : AtK k48 w x cs 0) : AtK (Kd.int .i64) w x.f1.f4 cs 5 := (((((h.iso.snd rfl).fst.iso.snd rfl).snd rfl).snd rfl).snd rfl)
theorem at48_6 {w : World} {x : S48} {cs : List Value} (h : AtK k48 w x cs 0) : AtK (Kd.int .i64) w x.f2.f0 cs 6 := ((h.iso.snd rfl).snd rfl).fst.iso.fst
theorem at48_7 {w : World} {x : S48} {cs : List Value} (h : AtK k48 w x cs 0) : AtK (Kd.slice 25 (Kd.slice 3 (Kd.int .i64))) w x.f2.f1 cs 7 := (((h.iso.snd rfl).snd rfl).fst.iso.snd rfl).fst
theorem at48_8 {w : World} {x : S48} {cs : List Value} (h : AtK k48 w x cs 0) : AtK (Kd.slice 25 (Kd.slice 3 (Kd.int .i64))) w x.f2.f2 cs 8 := ((((h.iso.snd rfl).snd rfl).fst.iso.snd rfl).snd rfl).fst
theorem at48_9 {w : World} {x : S48} {cs : List Value} (h : AtK k48 w x cs 0) : AtK (Kd.int .i64) w x.f2.f3 cs 9 := (((((h.iso.snd rfl).snd rfl).fst.iso.snd rfl).snd rfl).snd rfl).fst
theorem at48_10 {w : World} {x : S48} {cs : List Value} (h : AtK k48 w x cs 0) : AtK (Kd.int .i64) w x.f2.f4 cs 10 := ((((((h.iso.snd rfl).snd rfl).fst.iso.snd rfl).snd rfl).snd rfl).snd rfl)
theorem at48_11 {w : World} {x : S48} {cs : List Value} (h : AtK k48 w x cs 0) : AtK (Kd.int .i64) w x.f3.f0 cs 11 := (((h.iso.snd rfl).snd rfl).snd rfl).fst.iso.fst
theorem at48_12 {w : World} {x : S48} {cs : List Value} (h : AtK k48 w x cs 0) : AtK (Kd.slice 25 (Kd.slice 3 (Kd.int .i64))) w x.f3.f1 cs 12 := ((((h.iso.snd rfl).snd rfl).snd rfl).fst.iso.snd rfl).fst
theorem at48_13 {w : World} {x : S48} {cs : List Value} (h : AtK k48 w x cs 0) : AtK (Kd.slice 25 (Kd.slice 3 (Kd.int .i64))) w x.f3.f2 cs 13 := (((((h.iso.snd rfl).snd rfl).snd rfl).fst.iso.snd rfl).snd rfl).fst
theorem at48_14 {w : World} {x : S48} {cs : List Value} (h : AtK k48 w x cs 0) : AtK (Kd.int .i64) w x.f3.f3 cs 14 := ((((((h.iso.snd rfl).snd rfl).snd rfl).fst.iso.snd rfl).snd rfl).snd rfl).fst
theorem at48_15 {w : World} {x : S48} {cs : List Value} (h : AtK k48 w x cs 0) : AtK (Kd.int .i64) w x.f3.f4 cs 15 := (((((((h.iso.snd rfl).snd rfl).snd rfl).fst.iso.snd rfl).snd rfl).snd rfl).snd rfl)
theorem at48_16 {w : World} {x : S48} {cs : List Value} (h : AtK k48 w x cs 0) : AtK (Kd.int .i64) w x.f4.f0 cs 16 := ((((h.iso.snd rfl).snd rfl).snd rfl).snd rfl).fst.iso.fst
theorem at48_17 {w : World} {x : S48} {cs : List Value} (h : AtK k48 w x cs 0) : AtK (Kd.slice 25 (Kd.slice 3 (Kd.int .i64))) w x.f4.f1 cs 17 := (((((h.iso.snd rfl).snd rfl).snd rfl).snd rfl).fst.iso.snd rfl).fst
theorem at48_18 {w : World} {x : S48} {cs : List Value} (h : AtK k48 w x cs 0) : AtK (Kd.slice 25 (Kd.slice 3 (Kd.int .i64))) w x.f4.f2 cs 18 := ((((((h.iso.snd rfl).snd rfl).snd rfl).snd rfl).fst.iso.snd rfl).snd rfl).fst
theorem at48_19 {w : World} {x : S48} {cs : List Value} (h : AtK k48 w x cs 0) : AtK (Kd.int .i64) w x.f4.f3 cs 19 := (((((((h.iso.snd rfl).snd rfl).snd rfl).snd rfl).fst.iso.snd rfl).snd rfl).snd rfl).fst
theorem at48_20 {w : World} {x : S48} {cs : List Value} (h : AtK k48 w x cs 0) : AtK (Kd.int .i64) w x.f4.f4 cs 20 := ((((((((h.iso.snd rfl).snd rfl).snd rfl).snd rfl).fst.iso.snd rfl).snd rfl).snd rfl).snd rfl)
theorem at48_21 {w : World} {x : S48} {cs : List Value} (h : AtK k48 w x cs 0) : AtK (Kd.slice 3 (Kd.int .i64)) w x.f5 cs 21 := (((((h.iso.snd rfl).snd rfl).snd rfl).snd rfl).snd rfl).fst
theorem at48_22 {w : World} {x : S48} {cs : List Value} (h : AtK k48 w x cs 0) : AtK (Kd.int .i64) w x.f6.f0 cs 22 := ((((((h.iso.snd rfl).snd rfl).snd rfl).snd rfl).snd rfl).snd rfl).fst.iso.fst
theorem at48_23 {w : World} {x : S48} {cs : List Value} (h : AtK k48 w x cs 0) : AtK (Kd.slice 25 (Kd.slice 3 (Kd.int .i64))) w x.f6.f1 cs 23 := (((((((h.iso.snd rfl).snd rfl).snd rfl).snd rfl).snd rfl).snd rfl).fst.iso.snd rfl).fst
theorem at48_24 {w : World} {x : S48} {cs : List Value} (h : AtK k48 w x cs 0) : AtK (Kd.slice 25 (Kd.slice 3 (Kd.int .i64))) w x.f6.f2 cs 24 := ((((((((h.iso.snd rfl).snd rfl).snd rfl).snd rfl).snd rfl).snd rfl).fst.iso.snd rfl).snd rfl).fst
theorem at48_25 {w : World} {x : S48} {cs : List Value} (h : AtK k48 w x cs 0) : AtK (Kd.int .i64) w x.f6.f3 cs 25 := (((((((((h.iso.snd rfl).snd rfl).snd rfl).snd rfl).snd rfl).snd rfl).fst.iso.snd rfl).snd rfl).snd rfl).fst
theorem at48_26 {w : World} {x : S48} {cs : List Value} (h : AtK k48 w x cs 0) : AtK (Kd.int .i64) w x.f6.f4 cs 26 := ((((((((((h.iso.snd rfl).snd rfl).snd rfl).snd rfl).snd rfl).snd rfl).fst.iso.snd rfl).snd rfl).snd rfl).snd rfl)
theorem at48_27 {w : World} {x : S48} {cs : List Value} (h : AtK k48 w x cs 0) : AtK (Kd.int .i64) w x.f7.f0 cs 27 := (((((((h.iso.snd rfl).snd rfl).snd rfl).snd rfl).snd rfl).snd rfl).snd rfl).iso.fst
theorem at48_28 {w : World} {x : S48} {cs : List Value} (h : AtK k48 w x cs 0) : AtK (Kd.slice 25 (Kd.slice 3 (Kd.int .i64))) w x.f7.f1 cs 28 := ((((((((h.iso.snd rfl).snd rfl).snd rfl).snd rfl).snd rfl).snd rfl).snd rfl).iso.snd rfl).fst
theorem at48_29 {w : World} {x : S48} {cs : List Value} (h : AtK k48 w x cs 0) : AtK (Kd.slice 25 (Kd.slice 3 (Kd.int .i64))) w x.f7.f2 cs 29 := (((((((((h.iso.snd rfl).snd rfl).snd rfl).snd rfl).snd rfl).snd rfl).snd rfl).iso.snd rfl).snd rfl).fst
theorem at48_30 {w : World} {x : S48} {cs : List Value} (h : AtK k48 w x cs 0) : AtK (Kd.int .i64) w x.f7.f3 cs 30 := ((((((((((h.iso.snd rfl).snd rfl).snd rfl).snd rfl).snd rfl).snd rfl).snd rfl).iso.snd rfl).snd rfl).snd rfl).fst
theorem at48_31 {w : World} {x : S48} {cs : List Value} (h : AtK k48 w x cs 0) : AtK (Kd.int .i64) w x.f7.f4 cs 31 := (((((((((((h.iso.snd rfl).snd rfl).snd rfl).snd rfl).snd rfl).snd rfl).snd rfl).iso.snd rfl).snd rfl).snd rfl).snd rfl)
theorem at112_0 {w : World} {x : S112} {cs : List Value} (h : AtK k112 w x cs 0) : AtK (Kd.int .i64) w x.f0 cs 0 := h.iso.fst
theorem at112_1 {w : World} {x : S112} {cs : List Value} (h : AtK k112 w x cs 0) : AtK (Kd.int .i64) w x.f1 cs 1 := (h.iso.snd rfl)
def spec_l01New.b0 (l0 : List Int) (rec_ : Int → Int → Option (Int × Int)) (k18 : Nat) (i9 : Int) (i10 : Int) : Option (Int × Int) := (if i10 < (l0.length : Int) then (if i10 < 4000 then (if 0 ≤ i10 ∧ i10 < (l0.length : Int) then (rec_ (Go.bits .and .i64 (wrap64 ((wrap64 ((wrap64 (i9 * 131)) + (wrap64 ((l0.getD i10.toNat 0))))) + 7)) 1073741823) (wrap64 (i10 + 1))) else none) else (some (i9, i10))) else (some (i9, i10)))
def spec_l01New.l0 (l0 : List Int) : Nat → Int → Int → Option (Int × Int)
  | 0, _, _ => none
  | k + 1, i9, i10 => spec_l01New.b0 l0 (spec_l01New.l0 l0 k) k i9 i10
def spec_l01New.g (k : Nat) (l0 : List Int) : Option S140 := ((spec_l01New.l0 l0 k (wrap64 (11201 + (l0.length : Int))) 0).bind (fun o16 => (some (⟨l0, 0, o16.1⟩ : S140))))
theorem spec_l01New.runs (k : Nat) (A0 : Option Addr) (c0 : Nat) (l0 : List Int) (r : S140) (w : World) (hr0 : (Kd.int .u8).C w A0 l0.length l0) (hc0 : l0.length ≤ c0) (H : spec_l01New.g k l0 = some r) :
    Calls Try.prog 78 #[.slice A0 l0.length c0] w fun e w' => ∃ (b0_ : Nat), e = .returned (.pointer (some ⟨b0_, 0, none⟩)) ∧ w.heap.size ≤ b0_ ∧ w'.heap[b0_]? = some (.cells #[.slice A0 l0.length c0, .int .i64 r.f1, .int .i64 r.f2] 140 (0, 0)) ∧ Below w.heap.size w w' := by
  unfold spec_l01New.g at H
  have HS : St (fun _ => True) w w [] [(fun W => (Kd.int .u8).C W A0 l0.length l0)] [] := St.start (foot_cons (foot_C (Kd.heap_int _) hr0) foot_nil)
  refine cw_ (n := 32) Try.func78 fun R_ hR_ => ?_
  refine sr_ fun _ hK1 => ?_
  refine as_ ?_
  refine dn_ hK1 ?_
  exact by (
  clear hK1
  refine sr_ fun _ hK2 => ?_
  refine mv_ ?_
  refine ln_ Try.underlying53 ?_
  refine b_ bin_add64 ?_
  refine as_ ?_
  exact by (
  refine dn_ hK2 ?_
  clear hK2
  refine WC.seq fun K3 hK3 => ?_
  refine sr_ fun _ hK4 => ?_
  refine as_ ?_
  refine dn_ hK4 ?_
  exact by (
  clear hK4
  refine WC.block ?_
  obtain ⟨G5, hG6, o7, H, Ho8⟩ := open_G H
  have X11 : ∀ E_ W_, (∃ (i9 : Int) (i10 : Int), E_ = [(0, .slice A0 l0.length c0), (3, .int .i64 i9), (4, .int .i64 i10)] ∧ G5 (i9, i10) = some r ∧ St (fun _ => True) w W_ [] [(fun W => (Kd.int .u8).C W A0 l0.length l0)] []) → ∀ a, Fits a 32 E_ → K3 a W_ := by
    rintro E_ w12 ⟨i9, i10, rfl, H, HS⟩
    rw [hG6] at H
    exact by (
    (try dsimp only at H)
    refine hK3 _ _ ?_
    clear hK3
    refine sr_ fun _ hK13 => ?_
    refine mv_ ?_
    refine mv_ ?_
    exact by (
    refine v_ (Run.build (cells := #[.slice A0 l0.length c0, .int .i64 0, .int .i64 i9]) rfl [(0, .slice A0 l0.length c0), (2, .int .i64 i9)] ⟨⟨rfl, rfl⟩, ⟨⟨rfl, rfl⟩, trivial⟩⟩ (by kernel_rfl)) ?_
    refine bo_ HS (fun b14 w15 hb14 HS => ?_)
    refine as_ ?_
    refine dn_ hK13 ?_
    clear hK13
    obtain rfl := os H
    exact rt1 Try.f78 rfl rfl hR_ ⟨_, rfl, hb14, (HS.mu 0 rfl), HS.b⟩ ))
  exact by (
  clear hK3
  refine WC.loop (fun k_ E_ W_ => ∃ (i9 : Int) (i10 : Int), E_ = [(0, .slice A0 l0.length c0), (3, .int .i64 i9), (4, .int .i64 i10)] ∧ (∃ o_, spec_l01New.l0 l0 k_ i9 i10 = some o_ ∧ G5 o_ = some r) ∧ St (fun _ => True) w W_ [] [(fun W => (Kd.int .u8).C W A0 l0.length l0)] []) k ⟨(wrap64 (11201 + (l0.length : Int))), 0, rfl, ⟨_, H, Ho8⟩, (St.pick HS (fun W_ h_ => ⟨AllF.get 0 rfl h_, trivial⟩) (fun W_ h_ => trivial))⟩ ⟨rfl, rfl, rfl, trivial⟩ ?_
  rintro k_ E_ w17 ⟨i9, i10, rfl, ⟨o7, H, Ho8⟩, HS⟩
  rcases k_ with _ | k18
  · exact no_ H
  replace H : spec_l01New.b0 l0 (spec_l01New.l0 l0 k18) k18 i9 i10 = some o7 := H
  exact by (
  unfold spec_l01New.b0 at H
  refine WC.seq fun _ hK19 => ?_
  refine sr_ fun _ hK20 => ?_
  refine mv_ ?_
  refine mv_ ?_
  refine ln_ Try.underlying53 ?_
  exact by (
  refine b_ bin_lss ?_
  refine mv_ ?_
  rcases eti_ H with ⟨c21, H⟩ | ⟨c21, H⟩
  · refine off_ (c' := false) (dF c21) ?_
    refine off_ (c' := false) (dF c21) ?_
    refine v_ (Run.pickF rfl rfl (dF c21) rfl) ?_
    exact by (
    refine dn_ hK20 ?_
    clear hK20
    refine wn_ rfl ?_
    refine WC.exit ?_
    obtain rfl := os H
    exact WQ.via2 (fun _ _ h_ => h_) X11 ⟨i9, i10, rfl, Ho8, (St.pick HS (fun W_ h_ => ⟨AllF.get 0 rfl h_, trivial⟩) (fun W_ h_ => trivial))⟩ ⟨rfl, rfl, rfl, trivial⟩ )
  exact by (
  refine on_ (dT c21) ?_
  refine mv_ ?_
  refine on_ (dT c21) ?_
  refine b_ bin_lss ?_
  refine v_ (Run.pickT rfl rfl (dT c21) rfl) ?_
  refine dn_ hK20 ?_
  exact by (
  clear hK20
  rcases eti_ H with ⟨c22, H⟩ | ⟨c22, H⟩
  · refine wn_ (dF c22) ?_
    refine WC.exit ?_
    obtain rfl := os H
    exact WQ.via2 (fun _ _ h_ => h_) X11 ⟨i9, i10, rfl, Ho8, (St.pick HS (fun W_ h_ => ⟨AllF.get 0 rfl h_, trivial⟩) (fun W_ h_ => trivial))⟩ ⟨rfl, rfl, rfl, trivial⟩
  exact by (
  refine wy_ (dT c22) ?_
  refine WC.skip ?_
  refine via_ hK19 ?_
  clear hK19
  refine WC.seq fun _ hK23 => ?_
  refine WC.block ?_
  exact by (
  refine rg_ ?_
  refine mv_ ?_
  refine b_ bin_mul64 ?_
  refine mv_ ?_
  refine mv_ ?_
  obtain ⟨⟨q24, q25⟩, H⟩ := if_some H
  exact by (
  obtain ⟨ad26, rfl⟩ := C_open (HS.getO 0 rfl) (by omega)
  refine v_ (ia_ Try.underlying53 1 q24 q25) ?_
  refine v_ (Run.load rfl rfl Try.underlying5 rfl (int_cell (HS.getO 0 rfl) i10 q24 q25)) ?_
  refine v_ (Run.conv64 rfl Try.underlying5 Try.underlying3 rfl) ?_
  refine b_ bin_add64 ?_
  refine b_ bin_add64 ?_
  exact by (
  refine b_ bin_and ?_
  refine as_ ?_
  refine dn_ hK23 ?_
  clear hK23
  refine rg_ ?_
  refine mv_ ?_
  exact by (
  refine b_ bin_add64 ?_
  refine as_ ?_
  refine WL.done ?_
  exact WQ.round k18 (fun _ _ h_ => h_) (Nat.lt_succ_self _) ⟨(Go.bits .and .i64 (wrap64 ((wrap64 ((wrap64 (i9 * 131)) + (wrap64 ((l0.getD i10.toNat 0))))) + 7)) 1073741823), (wrap64 (i10 + 1)), rfl, ⟨_, H, Ho8⟩, (St.pick HS (fun W_ h_ => ⟨AllF.get 0 rfl h_, trivial⟩) (fun W_ h_ => trivial))⟩ ⟨rfl, rfl, rfl, trivial⟩ )))))))))))))
def spec_l01Byte.g (k : Nat) (x0 : S140) : Option (Int × S140) := (if x0.f1 < (x0.f0.length : Int) then (if 0 ≤ x0.f1 ∧ x0.f1 < (x0.f0.length : Int) then (some (Go.bits .and .i64 (wrap64 ((Go.bits .and .i64 (Go.bits .xor .i64 ((wrap64 ((wrap64 (x0.f2 * 6364136223846793005)) + 1442695040888963407)) / 8589934592) ((wrap64 ((wrap64 (x0.f2 * 6364136223846793005)) + 1442695040888963407)) / 35184372088832)) 255) + (wrap64 ((x0.f0.getD x0.f1.toNat 0))))) 255, (⟨x0.f0, wrap64 (x0.f1 + 1), wrap64 ((wrap64 (x0.f2 * 6364136223846793005)) + 1442695040888963407)⟩ : S140))) else none) else (some (Go.bits .and .i64 (Go.bits .xor .i64 ((wrap64 ((wrap64 (x0.f2 * 6364136223846793005)) + 1442695040888963407)) / 8589934592) ((wrap64 ((wrap64 (x0.f2 * 6364136223846793005)) + 1442695040888963407)) / 35184372088832)) 255, (⟨x0.f0, x0.f1, wrap64 ((wrap64 (x0.f2 * 6364136223846793005)) + 1442695040888963407)⟩ : S140))))
theorem spec_l01Byte.runs (k : Nat) (b0 : Nat) (x0 : S140) (A0_0 : Option Addr) (c0_0 : Nat) (bs_ : List Nat) (r1 : Int) (y_ : S140) (w0 w : World) (hB_ : Below w0.heap.size w0 w) (hn_ : (b0 :: bs_).Nodup) (hl_ : ∀ k, k ∈ b0 :: bs_ → w0.heap.size ≤ k ∧ k < w.heap.size) (hr0_0 : Foot (fun W => (Kd.int .u8).C W A0_0 x0.f0.length x0.f0) w (fun k_ => k_ ∉ b0 :: bs_)) (hc0_0 : x0.f0.length ≤ c0_0) (hb0 : w.heap[b0]? = some (.cells #[.slice A0_0 x0.f0.length c0_0, .int .i64 x0.f1, .int .i64 x0.f2] 140 (0, 0))) (H : spec_l01Byte.g k x0 = some (r1, y_)) :
    Calls Try.prog 132 #[.pointer (some ⟨b0, 0, none⟩)] w fun e w' => e = .returned (.int .i64 r1) ∧ w'.heap[b0]? = some (.cells #[.slice A0_0 x0.f0.length c0_0, .int .i64 y_.f1, .int .i64 y_.f2] 140 (0, 0)) ∧ RestOf w w' b0 ∧ Below w0.heap.size w0 w' := by
  unfold spec_l01Byte.g at H
  have HS : St (fun _ => True) w0 w [boxM b0 #[.slice A0_0 x0.f0.length c0_0, .int .i64 x0.f1, .int .i64 x0.f2] 140, keepM w bs_] [(frameF w b0 bs_), (fun W => (Kd.int .u8).C W A0_0 x0.f0.length x0.f0)] [] := St.startM hB_ hn_ hl_ hb0 (foot_cons hr0_0 foot_nil)
  refine cw_ (n := 58) Try.func132 fun R_ hR_ => ?_
  refine sr_ fun _ hK1 => ?_
  refine as_ ?_
  refine dn_ hK1 ?_
  exact by (
  clear hK1
  refine sr_ fun _ hK2 => ?_
  refine mv_ ?_
  refine mv_ ?_
  refine v_ (Run.nilCheck rfl rfl) ?_
  refine v_ (fa_ Try.underlying140) ?_
  exact by (
  refine v_ (lb_ (HS.mu 0 rfl) Try.underlying3 rfl) ?_
  refine b_ bin_mul64 ?_
  refine b_ bin_add64 ?_
  refine v_ (Run.nilCheck rfl rfl) ?_
  refine v_ (fa_ Try.underlying140) ?_
  refine WL.store HS 0 rfl rfl rfl rfl rfl rfl rfl (by kernel_rfl) (Nat.le_of_ble_eq_true rfl) (cs' := #[.slice A0_0 x0.f0.length c0_0, .int .i64 x0.f1, .int .i64 (wrap64 ((wrap64 (x0.f2 * 6364136223846793005)) + 1442695040888963407))]) (by kernel_rfl) (fun w3 HS => ?_)
  exact by (
  dsimp only [List.set] at HS
  refine dn_ hK2 ?_
  clear hK2
  refine WC.seq fun _ hK4 => ?_
  refine WC.drawS HS [] rfl rfl (fun w5 HS => ?_)
  have HB := Below.refl w5.heap.size w5
  exact by (
  have HSW := HS
  refine dm_ 0 ?_
  refine dp_ 1 (fun _ => Run.nilCheck rfl rfl) ?_
  refine df_ 2 Try.underlying140 ?_
  refine dm_ 5 ?_
  refine dp_ 6 (fun _ => Run.nilCheck rfl rfl) ?_
  exact by (
  refine df_ 7 Try.underlying140 ?_
  refine bl_ 3 HS (Below.refl _ _) 0 Try.underlying3 rfl ?_
  refine dp_ 4 (fun _ => Run.shr (k := .i64) (j := 33) rfl rfl rfl 8589934592 (by decide) (by decide)) ?_
  refine bl_ 8 HS (Below.refl _ _) 0 Try.underlying3 rfl ?_
  refine dp_ 9 (fun _ => Run.shr (k := .i64) (j := 45) rfl rfl rfl 35184372088832 (by decide) (by decide)) ?_
  refine dp_ 10 (fun _ => Run.bin rfl rfl rfl bin_xor) ?_
  exact by (
  refine dp_ 11 (fun _ => Run.bin rfl rfl rfl bin_and) ?_
  refine dp_ 12 (fun _ => Run.assign rfl rfl) ?_
  refine dd_ ?_
  clear HB HSW
  refine via_ hK4 ?_
  clear hK4
  exact by (
  refine WC.seq fun _ hK6 => ?_
  refine WC.seq fun _ hK7 => ?_
  refine WC.drawS HS [] rfl rfl (fun w8 HS => ?_)
  have HB := Below.refl w8.heap.size w8
  have HSW := HS
  refine dm_ 0 ?_
  exact by (
  refine dp_ 1 (fun _ => Run.nilCheck rfl rfl) ?_
  refine df_ 2 Try.underlying140 ?_
  refine dm_ 4 ?_
  refine dp_ 5 (fun _ => Run.nilCheck rfl rfl) ?_
  refine df_ 6 Try.underlying140 ?_
  refine bl_ 3 HS (Below.refl _ _) 0 Try.underlying3 rfl ?_
  exact by (
  refine bl_ 7 HS (Below.refl _ _) 0 Try.underlying53 rfl ?_
  refine dp_ 8 (fun _ => Run.len (ts := #[]) rfl Try.underlying53 rfl) ?_
  refine dp_ 9 (fun _ => Run.bin rfl rfl rfl bin_lss) ?_
  refine dd_ ?_
  clear HB HSW
  refine via_ hK7 ?_
  exact by (
  clear hK7
  rcases eti_ H with ⟨c9, H⟩ | ⟨c9, H⟩
  · refine wn_ (dF c9) ?_
    refine WC.skip ?_
    refine via_ hK6 ?_
    clear hK6
    exact by (
    refine sr_ fun _ hK17 => ?_
    refine mv_ ?_
    refine as_ ?_
    refine dn_ hK17 ?_
    clear hK17
    refine WC.ret ?_
    obtain ⟨rfl, rfl⟩ := Prod.mk.inj (os H)
    exact by (
    have HSf := HS
    exact fin1 Try.f132 rfl rfl hR_ ⟨rfl, (HSf.mu 0 rfl), (rest_of (HSf.getO 0 rfl) (HSf.mu 1 rfl)), HSf.b⟩ ))
  refine wy_ (dT c9) ?_
  refine WC.seq fun _ hK10 => ?_
  refine WC.drawS HS [] rfl rfl (fun w11 HS => ?_)
  have HB := Below.refl w11.heap.size w11
  exact by (
  have HSW := HS
  refine dm_ 0 ?_
  refine dm_ 1 ?_
  refine dp_ 2 (fun _ => Run.nilCheck rfl rfl) ?_
  refine df_ 3 Try.underlying140 ?_
  refine dm_ 5 ?_
  exact by (
  refine dp_ 6 (fun _ => Run.nilCheck rfl rfl) ?_
  refine df_ 7 Try.underlying140 ?_
  refine bl_ 4 HS (Below.refl _ _) 0 Try.underlying53 rfl ?_
  refine bl_ 8 HS (Below.refl _ _) 0 Try.underlying3 rfl ?_
  obtain ⟨⟨q12, q13⟩, H⟩ := if_some H
  obtain ⟨ad14, rfl⟩ := C_open (HS.getO 1 rfl) (by omega)
  exact by (
  refine di_ 9 Try.underlying53 1 q12 q13 ?_
  refine dt_ 10 (Below.refl _ _) (fun w_ hw_ => Run.load rfl rfl Try.underlying5 rfl (int_cell ((HS.below hw_).getO 1 rfl) x0.f1 q12 q13)) ?_
  refine dp_ 11 (fun _ => Run.conv64 rfl Try.underlying5 Try.underlying3 rfl) ?_
  refine dp_ 12 (fun _ => Run.bin rfl rfl rfl bin_add64) ?_
  refine dp_ 13 (fun _ => Run.bin rfl rfl rfl bin_and) ?_
  refine dp_ 14 (fun _ => Run.assign rfl rfl) ?_
  exact by (
  refine dd_ ?_
  clear HB HSW
  refine via_ hK10 ?_
  clear hK10
  refine rg_ ?_
  refine mv_ ?_
  exact by (
  refine mv_ ?_
  refine v_ (Run.nilCheck rfl rfl) ?_
  refine v_ (fa_ Try.underlying140) ?_
  refine v_ (lb_ (HS.mu 0 rfl) Try.underlying3 rfl) ?_
  refine b_ bin_add64 ?_
  refine v_ (Run.nilCheck rfl rfl) ?_
  exact by (
  refine v_ (fa_ Try.underlying140) ?_
  refine WL.store HS 0 rfl rfl rfl rfl rfl rfl rfl (by kernel_rfl) (Nat.le_of_ble_eq_true rfl) (cs' := #[.slice (some ad14) x0.f0.length c0_0, .int .i64 (wrap64 (x0.f1 + 1)), .int .i64 (wrap64 ((wrap64 (x0.f2 * 6364136223846793005)) + 1442695040888963407))]) (by kernel_rfl) (fun w15 HS => ?_)
  dsimp only [List.set] at HS
  refine dn_ hK6 ?_
  clear hK6
  refine sr_ fun _ hK16 => ?_
  exact by (
  refine mv_ ?_
  refine as_ ?_
  refine dn_ hK16 ?_
  clear hK16
  refine WC.ret ?_
  obtain ⟨rfl, rfl⟩ := Prod.mk.inj (os H)
  exact by (
  have HSf := HS
  exact fin1 Try.f132 rfl rfl hR_ ⟨rfl, (HSf.mu 0 rfl), (rest_of (HSf.getO 0 rfl) (HSf.mu 1 rfl)), HSf.b⟩ ))))))))))))))))))
def spec_l01Below.g (k : Nat) (x0 : S140) (a1 : Int) : Option (Int × S140) := (if a1 ≤ 0 then (some (0, (⟨x0.f0, x0.f1, x0.f2⟩ : S140))) else (if a1 ≤ 256 then ((spec_l01Byte.g k (⟨x0.f0, x0.f1, x0.f2⟩ : S140)).bind fun t10 => (if a1 ≠ 0 then (some (Int.tmod t10.1 a1, (⟨x0.f0, t10.2.f1, t10.2.f2⟩ : S140))) else none)) else ((spec_l01Byte.g k (⟨x0.f0, x0.f1, x0.f2⟩ : S140)).bind fun t15 => ((spec_l01Byte.g k (⟨x0.f0, t15.2.f1, t15.2.f2⟩ : S140)).bind fun t19 => ((spec_l01Byte.g k (⟨x0.f0, t19.2.f1, t19.2.f2⟩ : S140)).bind fun t23 => ((spec_l01Byte.g k (⟨x0.f0, t23.2.f1, t23.2.f2⟩ : S140)).bind fun t27 => (if a1 ≠ 0 then (some (Int.tmod (wrap64 ((wrap64 ((wrap64 ((wrap64 (t15.1 * 16777216)) + (wrap64 (t19.1 * 65536)))) + (wrap64 (t23.1 * 256)))) + t27.1)) a1, (⟨x0.f0, t27.2.f1, t27.2.f2⟩ : S140))) else none)))))))
theorem spec_l01Below.runs (k : Nat) (b0 : Nat) (x0 : S140) (A0_0 : Option Addr) (c0_0 : Nat) (a1 : Int) (bs_ : List Nat) (r1 : Int) (y_ : S140) (w0 w : World) (hB_ : Below w0.heap.size w0 w) (hn_ : (b0 :: bs_).Nodup) (hl_ : ∀ k, k ∈ b0 :: bs_ → w0.heap.size ≤ k ∧ k < w.heap.size) (hr0_0 : Foot (fun W => (Kd.int .u8).C W A0_0 x0.f0.length x0.f0) w (fun k_ => k_ ∉ b0 :: bs_)) (hc0_0 : x0.f0.length ≤ c0_0) (hb0 : w.heap[b0]? = some (.cells #[.slice A0_0 x0.f0.length c0_0, .int .i64 x0.f1, .int .i64 x0.f2] 140 (0, 0))) (H : spec_l01Below.g k x0 a1 = some (r1, y_)) :
    Calls Try.prog 80 #[.pointer (some ⟨b0, 0, none⟩), .int .i64 a1] w fun e w' => e = .returned (.int .i64 r1) ∧ w'.heap[b0]? = some (.cells #[.slice A0_0 x0.f0.length c0_0, .int .i64 y_.f1, .int .i64 y_.f2] 140 (0, 0)) ∧ RestOf w w' b0 ∧ Below w0.heap.size w0 w' := by
  unfold spec_l01Below.g at H
  have HS : St (fun _ => True) w0 w [boxM b0 #[.slice A0_0 x0.f0.length c0_0, .int .i64 x0.f1, .int .i64 x0.f2] 140, keepM w bs_] [(frameF w b0 bs_), (fun W => (Kd.int .u8).C W A0_0 x0.f0.length x0.f0)] [] := St.startM hB_ hn_ hl_ hb0 (foot_cons hr0_0 foot_nil)
  refine cw_ (n := 37) Try.func80 fun R_ hR_ => ?_
  refine sr_ fun _ hK1 => ?_
  refine as_ ?_
  refine dn_ hK1 ?_
  exact by (
  clear hK1
  refine WC.seq fun _ hK2 => ?_
  refine sr_ fun _ hK3 => ?_
  refine mv_ ?_
  refine b_ bin_leq ?_
  refine dn_ hK3 ?_
  exact by (
  clear hK3
  rcases ite_ H with ⟨c4, H⟩ | ⟨c4, H⟩
  · refine wy_ (dT c4) ?_
    refine sr_ fun _ hK5 => ?_
    refine as_ ?_
    refine dn_ hK5 ?_
    exact by (
    clear hK5
    refine WC.ret ?_
    obtain ⟨rfl, rfl⟩ := Prod.mk.inj (os H)
    have HSf := HS
    exact fin1 Try.f80 rfl rfl hR_ ⟨rfl, (HSf.mu 0 rfl), (rest_of (HSf.getO 0 rfl) (HSf.mu 1 rfl)), HSf.b⟩ )
  refine wn_ (dF c4) ?_
  exact by (
  refine WC.skip ?_
  refine via_ hK2 ?_
  clear hK2
  refine WC.seq fun _ hK6 => ?_
  refine sr_ fun _ hK7 => ?_
  refine mv_ ?_
  exact by (
  refine b_ bin_leq ?_
  refine dn_ hK7 ?_
  clear hK7
  rcases ite_ H with ⟨c8, H⟩ | ⟨c8, H⟩
  · refine wy_ (dT c8) ?_
    refine sr_ fun _ hK9 => ?_
    exact by (
    refine mv_ ?_
    obtain ⟨t10, ha11, H⟩ := bind_some H
    refine c_ Try.func132 (spec_l01Byte.runs k b0 (⟨x0.f0, x0.f1, x0.f2⟩ : S140) A0_0 c0_0 _ t10.1 t10.2 _ _ HS.b (HS.nodupM 0 rfl) (HS.boundM 0 rfl) (HS.footOM 0 rfl 1 rfl) hc0_0 (HS.mu 0 rfl) ha11) ?_
    clear ha11
    rintro _ w12 ⟨rfl, hbx_, hrest_, hB1_⟩
    replace HS := HS.calledM 0 rfl hB1_ hrest_ hbx_
    exact by (
    dsimp only [List.set] at HS
    clear hB1_ hrest_ hbx_
    refine ⟨_, rfl, ?_⟩
    refine mv_ ?_
    obtain ⟨z13, H⟩ := if_some H
    refine b_ (bin_rem z13) ?_
    exact by (
    refine as_ ?_
    refine dn_ hK9 ?_
    clear hK9
    refine WC.ret ?_
    obtain ⟨rfl, rfl⟩ := Prod.mk.inj (os H)
    have HSf := HS
    exact fin1 Try.f80 rfl rfl hR_ ⟨rfl, (HSf.mu 0 rfl), (rest_of (HSf.getO 0 rfl) (HSf.mu 1 rfl)), HSf.b⟩ )))
  exact by (
  refine wn_ (dF c8) ?_
  refine WC.skip ?_
  refine via_ hK6 ?_
  clear hK6
  refine sr_ fun _ hK14 => ?_
  refine mv_ ?_
  exact by (
  obtain ⟨t15, ha16, H⟩ := bind_some H
  refine c_ Try.func132 (spec_l01Byte.runs k b0 (⟨x0.f0, x0.f1, x0.f2⟩ : S140) A0_0 c0_0 _ t15.1 t15.2 _ _ HS.b (HS.nodupM 0 rfl) (HS.boundM 0 rfl) (HS.footOM 0 rfl 1 rfl) hc0_0 (HS.mu 0 rfl) ha16) ?_
  clear ha16
  rintro _ w17 ⟨rfl, hbx_, hrest_, hB1_⟩
  replace HS := HS.calledM 0 rfl hB1_ hrest_ hbx_
  dsimp only [List.set] at HS
  exact by (
  clear hB1_ hrest_ hbx_
  refine ⟨_, rfl, ?_⟩
  refine as_ ?_
  refine dn_ hK14 ?_
  clear hK14
  refine sr_ fun _ hK18 => ?_
  exact by (
  refine mv_ ?_
  obtain ⟨t19, ha20, H⟩ := bind_some H
  refine c_ Try.func132 (spec_l01Byte.runs k b0 (⟨x0.f0, t15.2.f1, t15.2.f2⟩ : S140) A0_0 c0_0 _ t19.1 t19.2 _ _ HS.b (HS.nodupM 0 rfl) (HS.boundM 0 rfl) (HS.footOM 0 rfl 1 rfl) hc0_0 (HS.mu 0 rfl) ha20) ?_
  clear ha20
  rintro _ w21 ⟨rfl, hbx_, hrest_, hB1_⟩
  replace HS := HS.calledM 0 rfl hB1_ hrest_ hbx_
  exact by (
  dsimp only [List.set] at HS
  clear hB1_ hrest_ hbx_
  refine ⟨_, rfl, ?_⟩
  refine as_ ?_
  refine dn_ hK18 ?_
  clear hK18
  exact by (
  refine sr_ fun _ hK22 => ?_
  refine mv_ ?_
  obtain ⟨t23, ha24, H⟩ := bind_some H
  refine c_ Try.func132 (spec_l01Byte.runs k b0 (⟨x0.f0, t19.2.f1, t19.2.f2⟩ : S140) A0_0 c0_0 _ t23.1 t23.2 _ _ HS.b (HS.nodupM 0 rfl) (HS.boundM 0 rfl) (HS.footOM 0 rfl 1 rfl) hc0_0 (HS.mu 0 rfl) ha24) ?_
  clear ha24
  rintro _ w25 ⟨rfl, hbx_, hrest_, hB1_⟩
  exact by (
  replace HS := HS.calledM 0 rfl hB1_ hrest_ hbx_
  dsimp only [List.set] at HS
  clear hB1_ hrest_ hbx_
  refine ⟨_, rfl, ?_⟩
  refine as_ ?_
  refine dn_ hK22 ?_
  exact by (
  clear hK22
  refine sr_ fun _ hK26 => ?_
  refine mv_ ?_
  obtain ⟨t27, ha28, H⟩ := bind_some H
  refine c_ Try.func132 (spec_l01Byte.runs k b0 (⟨x0.f0, t23.2.f1, t23.2.f2⟩ : S140) A0_0 c0_0 _ t27.1 t27.2 _ _ HS.b (HS.nodupM 0 rfl) (HS.boundM 0 rfl) (HS.footOM 0 rfl 1 rfl) hc0_0 (HS.mu 0 rfl) ha28) ?_
  clear ha28
  exact by (
  rintro _ w29 ⟨rfl, hbx_, hrest_, hB1_⟩
  replace HS := HS.calledM 0 rfl hB1_ hrest_ hbx_
  dsimp only [List.set] at HS
  clear hB1_ hrest_ hbx_
  refine ⟨_, rfl, ?_⟩
  refine as_ ?_
  exact by (
  refine dn_ hK26 ?_
  clear hK26
  refine sr_ fun _ hK30 => ?_
  refine mv_ ?_
  refine b_ bin_mul64 ?_
  refine mv_ ?_
  exact by (
  refine b_ bin_mul64 ?_
  refine b_ bin_add64 ?_
  refine mv_ ?_
  refine b_ bin_mul64 ?_
  refine b_ bin_add64 ?_
  refine mv_ ?_
  exact by (
  refine b_ bin_add64 ?_
  refine mv_ ?_
  obtain ⟨z31, H⟩ := if_some H
  refine b_ (bin_rem z31) ?_
  refine as_ ?_
  refine dn_ hK30 ?_
  exact by (
  clear hK30
  refine WC.ret ?_
  obtain ⟨rfl, rfl⟩ := Prod.mk.inj (os H)
  have HSf := HS
  exact fin1 Try.f80 rfl rfl hR_ ⟨rfl, (HSf.mu 0 rfl), (rest_of (HSf.getO 0 rfl) (HSf.mu 1 rfl)), HSf.b⟩ )))))))))))))))))
def spec_l01Once.g (k : Nat) (x0 : S140) (a1 : Int) : Option (Bool × S140) := ((spec_l01Below.g k (⟨x0.f0, x0.f1, x0.f2⟩ : S140) a1).bind fun t3 => (some (t3.1 == 0, (⟨x0.f0, t3.2.f1, t3.2.f2⟩ : S140))))
theorem spec_l01Once.runs (k : Nat) (b0 : Nat) (x0 : S140) (A0_0 : Option Addr) (c0_0 : Nat) (a1 : Int) (bs_ : List Nat) (r1 : Bool) (y_ : S140) (w0 w : World) (hB_ : Below w0.heap.size w0 w) (hn_ : (b0 :: bs_).Nodup) (hl_ : ∀ k, k ∈ b0 :: bs_ → w0.heap.size ≤ k ∧ k < w.heap.size) (hr0_0 : Foot (fun W => (Kd.int .u8).C W A0_0 x0.f0.length x0.f0) w (fun k_ => k_ ∉ b0 :: bs_)) (hc0_0 : x0.f0.length ≤ c0_0) (hb0 : w.heap[b0]? = some (.cells #[.slice A0_0 x0.f0.length c0_0, .int .i64 x0.f1, .int .i64 x0.f2] 140 (0, 0))) (H : spec_l01Once.g k x0 a1 = some (r1, y_)) :
    Calls Try.prog 134 #[.pointer (some ⟨b0, 0, none⟩), .int .i64 a1] w fun e w' => e = .returned (.bool r1) ∧ w'.heap[b0]? = some (.cells #[.slice A0_0 x0.f0.length c0_0, .int .i64 y_.f1, .int .i64 y_.f2] 140 (0, 0)) ∧ RestOf w w' b0 ∧ Below w0.heap.size w0 w' := by
  unfold spec_l01Once.g at H
  have HS : St (fun _ => True) w0 w [boxM b0 #[.slice A0_0 x0.f0.length c0_0, .int .i64 x0.f1, .int .i64 x0.f2] 140, keepM w bs_] [(frameF w b0 bs_), (fun W => (Kd.int .u8).C W A0_0 x0.f0.length x0.f0)] [] := St.startM hB_ hn_ hl_ hb0 (foot_cons hr0_0 foot_nil)
  refine cw_ (n := 9) Try.func134 fun R_ hR_ => ?_
  refine sr_ fun _ hK1 => ?_
  refine as_ ?_
  refine dn_ hK1 ?_
  exact by (
  clear hK1
  refine sr_ fun _ hK2 => ?_
  refine mv_ ?_
  refine mv_ ?_
  obtain ⟨t3, ha4, H⟩ := bind_some H
  refine c_ Try.func80 (spec_l01Below.runs k b0 (⟨x0.f0, x0.f1, x0.f2⟩ : S140) A0_0 c0_0 a1 _ t3.1 t3.2 _ _ HS.b (HS.nodupM 0 rfl) (HS.boundM 0 rfl) (HS.footOM 0 rfl 1 rfl) hc0_0 (HS.mu 0 rfl) ha4) ?_
  exact by (
  clear ha4
  rintro _ w5 ⟨rfl, hbx_, hrest_, hB1_⟩
  replace HS := HS.calledM 0 rfl hB1_ hrest_ hbx_
  dsimp only [List.set] at HS
  clear hB1_ hrest_ hbx_
  refine ⟨_, rfl, ?_⟩
  exact by (
  refine b_ bin_eql ?_
  refine as_ ?_
  refine dn_ hK2 ?_
  clear hK2
  refine WC.ret ?_
  obtain ⟨rfl, rfl⟩ := Prod.mk.inj (os H)
  exact by (
  have HSf := HS
  exact fin1 Try.f134 rfl rfl hR_ ⟨rfl, (HSf.mu 0 rfl), (rest_of (HSf.getO 0 rfl) (HSf.mu 1 rfl)), HSf.b⟩ ))))
def spec_l04Small.b0 (x0 : S140) (a1 : Int) (rec_ : (List Int) → Int → Int → Int → Option ((List Int) × Int × Int × Int)) (k25 : Nat) (xs11 : List Int) (i14 : Int) (i15 : Int) (i16 : Int) : Option ((List Int) × Int × Int × Int) := (if i14 < a1 then ((spec_l01Below.g k25 (⟨x0.f0, i15, i16⟩ : S140) 16).bind fun t30 => (if (xs11.length) < 4294967296 then (rec_ (xs11 ++ [wrap64 (t30.1 - 8)]) (wrap64 (i14 + 1)) t30.2.f1 t30.2.f2) else none)) else (some (xs11, i14, i15, i16)))
def spec_l04Small.l0 (x0 : S140) (a1 : Int) : Nat → (List Int) → Int → Int → Int → Option ((List Int) × Int × Int × Int)
  | 0, _, _, _, _ => none
  | k + 1, xs11, i14, i15, i16 => spec_l04Small.b0 x0 a1 (spec_l04Small.l0 x0 a1 k) k xs11 i14 i15 i16
def spec_l04Small.g (k : Nat) (x0 : S140) (a1 : Int) : Option ((List Int) × S140) := ((spec_l04Small.l0 x0 a1 k ([] : List Int) 0 x0.f1 x0.f2).bind (fun o23 => (some (o23.1, (⟨x0.f0, o23.2.2.1, o23.2.2.2⟩ : S140)))))
theorem spec_l04Small.runs (k : Nat) (b0 : Nat) (x0 : S140) (A0_0 : Option Addr) (c0_0 : Nat) (a1 : Int) (bs_ : List Nat) (r1 : List Int) (y_ : S140) (w0 w : World) (hB_ : Below w0.heap.size w0 w) (hn_ : (b0 :: bs_).Nodup) (hl_ : ∀ k, k ∈ b0 :: bs_ → w0.heap.size ≤ k ∧ k < w.heap.size) (hr0_0 : Foot (fun W => (Kd.int .u8).C W A0_0 x0.f0.length x0.f0) w (fun k_ => k_ ∉ b0 :: bs_)) (hc0_0 : x0.f0.length ≤ c0_0) (hb0 : w.heap[b0]? = some (.cells #[.slice A0_0 x0.f0.length c0_0, .int .i64 x0.f1, .int .i64 x0.f2] 140 (0, 0))) (H : spec_l04Small.g k x0 a1 = some (r1, y_)) :
    Calls Try.prog 151 #[.pointer (some ⟨b0, 0, none⟩), .int .i64 a1] w fun e w' => ∃ (A0_ : Option Addr) (c0_ : Nat), e = .returned (.slice A0_ r1.length c0_) ∧ r1.length ≤ c0_ ∧ Foot (fun W => (Kd.int .i64).C W A0_ r1.length r1) w' (fun k_ => w0.heap.size ≤ k_ ∧ k_ ∉ b0 :: bs_) ∧ w'.heap[b0]? = some (.cells #[.slice A0_0 x0.f0.length c0_0, .int .i64 y_.f1, .int .i64 y_.f2] 140 (0, 0)) ∧ RestOf w w' b0 ∧ Below w0.heap.size w0 w' := by
  unfold spec_l04Small.g at H
  have HS : St (fun _ => True) w0 w [boxM b0 #[.slice A0_0 x0.f0.length c0_0, .int .i64 x0.f1, .int .i64 x0.f2] 140, keepM w bs_] [(frameF w b0 bs_), (fun W => (Kd.int .u8).C W A0_0 x0.f0.length x0.f0)] [] := St.startM hB_ hn_ hl_ hb0 (foot_cons hr0_0 foot_nil)
  refine cw_ (n := 20) Try.func151 fun R_ hR_ => ?_
  refine sr_ fun _ hK1 => ?_
  refine as_ ?_
  refine dn_ hK1 ?_
  exact by (
  clear hK1
  refine sr_ fun _ hK2 => ?_
  refine WL.lit0 HS rfl rfl (by decide) rfl Try.underlying25 (sz := 1) (by kernel_rfl) (fun v3 w4 HS => ?_)
  replace HS := HS.deriveN (p := (fun W => Reps ((Kd.int .i64).K W) (Kd.int .i64).sz ([] : List Int) [])) (fun _ _ => Reps.none _ _)
  refine as_ ?_
  refine dn_ hK2 ?_
  exact by (
  clear hK2
  refine WC.seq fun K5 hK5 => ?_
  refine sr_ fun _ hK6 => ?_
  refine as_ ?_
  refine dn_ hK6 ?_
  clear hK6
  exact by (
  refine WC.block ?_
  obtain ⟨G7, hG8, o9, H, Ho10⟩ := open_G H
  have X17 : ∀ E_ W_, (∃ (xs11 : List Int) (v12 : Value) (I13 : List Value) (i14 : Int) (i15 : Int) (i16 : Int), E_ = [(0, .pointer (some ⟨b0, 0, none⟩)), (1, .int .i64 a1), (5, v12), (6, .int .i64 i14)] ∧ G7 (xs11, i14, i15, i16) = some (r1, y_) ∧ St (fun _ => True) w0 W_ [rowM w0.heap.size 3 1 v12 xs11.length I13, boxM b0 #[.slice A0_0 x0.f0.length c0_0, .int .i64 i15, .int .i64 i16] 140, keepM w bs_] [(frameF w b0 bs_), (fun W => (Kd.int .u8).C W A0_0 x0.f0.length x0.f0)] [(fun W => Reps ((Kd.int .i64).K W) (Kd.int .i64).sz xs11 I13)]) → ∀ a, Fits a 20 E_ → K5 a W_ := by
    rintro E_ w18 ⟨xs11, v12, I13, i14, i15, i16, rfl, H, HS⟩
    rw [hG8] at H
    (try dsimp only at H)
    exact by (
    refine hK5 _ _ ?_
    clear hK5
    refine sr_ fun _ hK19 => ?_
    refine mv_ ?_
    refine as_ ?_
    refine dn_ hK19 ?_
    exact by (
    clear hK19
    refine WC.ret ?_
    obtain ⟨A20, c21, rfl⟩ := row_slice (HS.mu 0 rfl)
    have le22 := row_le (HS.mu 0 rfl)
    replace HS := HS.freezeN 0 (p := (fun W => (Kd.int .i64).C W A20 (xs11).length (xs11))) rfl (fun W_ hm_ h_ => row_C (by rfl) hm_ (AllF.get 0 rfl h_))
    dsimp only [List.eraseIdx] at HS
    obtain ⟨rfl, rfl⟩ := Prod.mk.inj (os H)
    exact by (
    have HSf := HS
    exact fin1 Try.f151 rfl rfl hR_ ⟨_, _, rfl, le22, (foot_freshM (HSf.footN 0 rfl)), (HSf.mu 0 rfl), (rest_of (HSf.getO 0 rfl) (HSf.mu 1 rfl)), HSf.b⟩ )))
  clear hK5
  refine WC.loop (fun k_ E_ W_ => ∃ (xs11 : List Int) (v12 : Value) (I13 : List Value) (i14 : Int) (i15 : Int) (i16 : Int), E_ = [(0, .pointer (some ⟨b0, 0, none⟩)), (1, .int .i64 a1), (5, v12), (6, .int .i64 i14)] ∧ (∃ o_, spec_l04Small.l0 x0 a1 k_ xs11 i14 i15 i16 = some o_ ∧ G7 o_ = some (r1, y_)) ∧ St (fun _ => True) w0 W_ [rowM w0.heap.size 3 1 v12 xs11.length I13, boxM b0 #[.slice A0_0 x0.f0.length c0_0, .int .i64 i15, .int .i64 i16] 140, keepM w bs_] [(frameF w b0 bs_), (fun W => (Kd.int .u8).C W A0_0 x0.f0.length x0.f0)] [(fun W => Reps ((Kd.int .i64).K W) (Kd.int .i64).sz xs11 I13)]) k ⟨([] : List Int), v3, ([]), 0, x0.f1, x0.f2, rfl, ⟨_, H, Ho10⟩, (St.pick HS (fun W_ h_ => ⟨AllF.get 0 rfl h_, AllF.get 1 rfl h_, trivial⟩) (fun W_ h_ => ⟨AllF.get 0 rfl h_, trivial⟩))⟩ ⟨rfl, rfl, rfl, rfl, trivial⟩ ?_
  rintro k_ E_ w24 ⟨xs11, v12, I13, i14, i15, i16, rfl, ⟨o9, H, Ho10⟩, HS⟩
  rcases k_ with _ | k25
  · exact no_ H
  exact by (
  replace H : spec_l04Small.b0 x0 a1 (spec_l04Small.l0 x0 a1 k25) k25 xs11 i14 i15 i16 = some o9 := H
  unfold spec_l04Small.b0 at H
  refine WC.seq fun _ hK26 => ?_
  refine sr_ fun _ hK27 => ?_
  refine mv_ ?_
  refine mv_ ?_
  exact by (
  refine b_ bin_lss ?_
  refine dn_ hK27 ?_
  clear hK27
  rcases eti_ H with ⟨c28, H⟩ | ⟨c28, H⟩
  · refine wn_ (dF c28) ?_
    refine WC.exit ?_
    obtain rfl := os H
    exact WQ.via2 (fun _ _ h_ => h_) X17 ⟨xs11, v12, I13, i14, i15, i16, rfl, Ho10, (St.pick HS (fun W_ h_ => ⟨AllF.get 0 rfl h_, AllF.get 1 rfl h_, trivial⟩) (fun W_ h_ => ⟨AllF.get 0 rfl h_, trivial⟩))⟩ ⟨rfl, rfl, rfl, rfl, trivial⟩
  exact by (
  refine wy_ (dT c28) ?_
  refine WC.skip ?_
  refine via_ hK26 ?_
  clear hK26
  refine WC.seq fun _ hK29 => ?_
  refine WC.block ?_
  exact by (
  refine rg_ ?_
  refine mv_ ?_
  refine mv_ ?_
  obtain ⟨t30, ha31, H⟩ := bind_some H
  refine c_ Try.func80 (spec_l01Below.runs k25 b0 (⟨x0.f0, i15, i16⟩ : S140) A0_0 c0_0 16 _ t30.1 t30.2 _ _ HS.b (HS.nodupM 1 rfl) (HS.boundM 1 rfl) (HS.footOM 1 rfl 1 rfl) hc0_0 (HS.mu 1 rfl) ha31) ?_
  clear ha31
  exact by (
  rintro _ w32 ⟨rfl, hbx_, hrest_, hB1_⟩
  replace HS := HS.calledM 1 rfl hB1_ hrest_ hbx_
  dsimp only [List.set] at HS
  clear hB1_ hrest_ hbx_
  refine ⟨_, rfl, ?_⟩
  refine b_ bin_sub64 ?_
  exact by (
  refine WL.val rfl rfl (by decide) (Run.lit1 (z := (.int .i64 0)) (vs := [.int .i64 (wrap64 (t30.1 - 8))]) rfl rfl rfl Try.underlying25 (by kernel_rfl) (Nat.le_of_ble_eq_true rfl) (Nat.le_of_ble_eq_true rfl)) ?_
  have HS1 := HS.below (below_alloc (Below.refl _ _) (.cells #[.int .i64 (wrap64 (t30.1 - 8))] 3))
  obtain ⟨q33, H⟩ := if_some H
  refine WL.append HS1 0 rfl rfl rfl (by decide) rfl (.int .i64 0) 8 Try.underlying25 (by kernel_rfl) rfl (by decide) (by decide) rfl rfl [.int .i64 (wrap64 (t30.1 - 8))] rfl (lit_news _ _ _) (one_cons rfl one_nil) (by omega) ((xs11 ++ [wrap64 (t30.1 - 8)]).length) (by simp) (fun v34 w35 I36 hI37 HS => ?_)
  dsimp only [List.set] at HS
  replace HS := HS.deriveN (p := (fun W => Reps ((Kd.int .i64).K W) (Kd.int .i64).sz (xs11 ++ [wrap64 (t30.1 - 8)]) I36)) (fun W_ hN_ => reps_snoc hI37 (AllF.get 0 rfl hN_) (K_int _))
  exact by (
  clear HS1
  refine as_ ?_
  refine dn_ hK29 ?_
  clear hK29
  refine rg_ ?_
  refine mv_ ?_
  exact by (
  refine b_ bin_add64 ?_
  refine as_ ?_
  refine WL.done ?_
  exact WQ.round k25 (fun _ _ h_ => h_) (Nat.lt_succ_self _) ⟨(xs11 ++ [wrap64 (t30.1 - 8)]), v34, I36, (wrap64 (i14 + 1)), t30.2.f1, t30.2.f2, rfl, ⟨_, H, Ho10⟩, (St.pick HS (fun W_ h_ => ⟨AllF.get 0 rfl h_, AllF.get 1 rfl h_, trivial⟩) (fun W_ h_ => ⟨AllF.get 0 rfl h_, trivial⟩))⟩ ⟨rfl, rfl, rfl, rfl, trivial⟩ )))))))))))
def spec_l10Gain.b0 (x0 : S140) (a1 : Int) (rec_ : (List Int) → Int → Int → Int → Option ((List Int) × Int × Int × Int)) (k25 : Nat) (xs11 : List Int) (i14 : Int) (i15 : Int) (i16 : Int) : Option ((List Int) × Int × Int × Int) := (if i14 < a1 then ((spec_l01Below.g k25 (⟨x0.f0, i15, i16⟩ : S140) 100).bind fun t30 => (if (xs11.length) < 4294967296 then (rec_ (xs11 ++ [wrap64 (20 + t30.1)]) (wrap64 (i14 + 1)) t30.2.f1 t30.2.f2) else none)) else (some (xs11, i14, i15, i16)))
def spec_l10Gain.l0 (x0 : S140) (a1 : Int) : Nat → (List Int) → Int → Int → Int → Option ((List Int) × Int × Int × Int)
  | 0, _, _, _, _ => none
  | k + 1, xs11, i14, i15, i16 => spec_l10Gain.b0 x0 a1 (spec_l10Gain.l0 x0 a1 k) k xs11 i14 i15 i16
def spec_l10Gain.g (k : Nat) (x0 : S140) (a1 : Int) : Option ((List Int) × S140) := ((spec_l10Gain.l0 x0 a1 k ([] : List Int) 0 x0.f1 x0.f2).bind (fun o23 => (some (o23.1, (⟨x0.f0, o23.2.2.1, o23.2.2.2⟩ : S140)))))
theorem spec_l10Gain.runs (k : Nat) (b0 : Nat) (x0 : S140) (A0_0 : Option Addr) (c0_0 : Nat) (a1 : Int) (bs_ : List Nat) (r1 : List Int) (y_ : S140) (w0 w : World) (hB_ : Below w0.heap.size w0 w) (hn_ : (b0 :: bs_).Nodup) (hl_ : ∀ k, k ∈ b0 :: bs_ → w0.heap.size ≤ k ∧ k < w.heap.size) (hr0_0 : Foot (fun W => (Kd.int .u8).C W A0_0 x0.f0.length x0.f0) w (fun k_ => k_ ∉ b0 :: bs_)) (hc0_0 : x0.f0.length ≤ c0_0) (hb0 : w.heap[b0]? = some (.cells #[.slice A0_0 x0.f0.length c0_0, .int .i64 x0.f1, .int .i64 x0.f2] 140 (0, 0))) (H : spec_l10Gain.g k x0 a1 = some (r1, y_)) :
    Calls Try.prog 130 #[.pointer (some ⟨b0, 0, none⟩), .int .i64 a1] w fun e w' => ∃ (A0_ : Option Addr) (c0_ : Nat), e = .returned (.slice A0_ r1.length c0_) ∧ r1.length ≤ c0_ ∧ Foot (fun W => (Kd.int .i64).C W A0_ r1.length r1) w' (fun k_ => w0.heap.size ≤ k_ ∧ k_ ∉ b0 :: bs_) ∧ w'.heap[b0]? = some (.cells #[.slice A0_0 x0.f0.length c0_0, .int .i64 y_.f1, .int .i64 y_.f2] 140 (0, 0)) ∧ RestOf w w' b0 ∧ Below w0.heap.size w0 w' := by
  unfold spec_l10Gain.g at H
  have HS : St (fun _ => True) w0 w [boxM b0 #[.slice A0_0 x0.f0.length c0_0, .int .i64 x0.f1, .int .i64 x0.f2] 140, keepM w bs_] [(frameF w b0 bs_), (fun W => (Kd.int .u8).C W A0_0 x0.f0.length x0.f0)] [] := St.startM hB_ hn_ hl_ hb0 (foot_cons hr0_0 foot_nil)
  refine cw_ (n := 20) Try.func130 fun R_ hR_ => ?_
  refine sr_ fun _ hK1 => ?_
  refine as_ ?_
  refine dn_ hK1 ?_
  exact by (
  clear hK1
  refine sr_ fun _ hK2 => ?_
  refine WL.lit0 HS rfl rfl (by decide) rfl Try.underlying25 (sz := 1) (by kernel_rfl) (fun v3 w4 HS => ?_)
  replace HS := HS.deriveN (p := (fun W => Reps ((Kd.int .i64).K W) (Kd.int .i64).sz ([] : List Int) [])) (fun _ _ => Reps.none _ _)
  refine as_ ?_
  refine dn_ hK2 ?_
  exact by (
  clear hK2
  refine WC.seq fun K5 hK5 => ?_
  refine sr_ fun _ hK6 => ?_
  refine as_ ?_
  refine dn_ hK6 ?_
  clear hK6
  exact by (
  refine WC.block ?_
  obtain ⟨G7, hG8, o9, H, Ho10⟩ := open_G H
  have X17 : ∀ E_ W_, (∃ (xs11 : List Int) (v12 : Value) (I13 : List Value) (i14 : Int) (i15 : Int) (i16 : Int), E_ = [(0, .pointer (some ⟨b0, 0, none⟩)), (1, .int .i64 a1), (5, v12), (6, .int .i64 i14)] ∧ G7 (xs11, i14, i15, i16) = some (r1, y_) ∧ St (fun _ => True) w0 W_ [rowM w0.heap.size 3 1 v12 xs11.length I13, boxM b0 #[.slice A0_0 x0.f0.length c0_0, .int .i64 i15, .int .i64 i16] 140, keepM w bs_] [(frameF w b0 bs_), (fun W => (Kd.int .u8).C W A0_0 x0.f0.length x0.f0)] [(fun W => Reps ((Kd.int .i64).K W) (Kd.int .i64).sz xs11 I13)]) → ∀ a, Fits a 20 E_ → K5 a W_ := by
    rintro E_ w18 ⟨xs11, v12, I13, i14, i15, i16, rfl, H, HS⟩
    rw [hG8] at H
    (try dsimp only at H)
    exact by (
    refine hK5 _ _ ?_
    clear hK5
    refine sr_ fun _ hK19 => ?_
    refine mv_ ?_
    refine as_ ?_
    refine dn_ hK19 ?_
    exact by (
    clear hK19
    refine WC.ret ?_
    obtain ⟨A20, c21, rfl⟩ := row_slice (HS.mu 0 rfl)
    have le22 := row_le (HS.mu 0 rfl)
    replace HS := HS.freezeN 0 (p := (fun W => (Kd.int .i64).C W A20 (xs11).length (xs11))) rfl (fun W_ hm_ h_ => row_C (by rfl) hm_ (AllF.get 0 rfl h_))
    dsimp only [List.eraseIdx] at HS
    obtain ⟨rfl, rfl⟩ := Prod.mk.inj (os H)
    exact by (
    have HSf := HS
    exact fin1 Try.f130 rfl rfl hR_ ⟨_, _, rfl, le22, (foot_freshM (HSf.footN 0 rfl)), (HSf.mu 0 rfl), (rest_of (HSf.getO 0 rfl) (HSf.mu 1 rfl)), HSf.b⟩ )))
  clear hK5
  refine WC.loop (fun k_ E_ W_ => ∃ (xs11 : List Int) (v12 : Value) (I13 : List Value) (i14 : Int) (i15 : Int) (i16 : Int), E_ = [(0, .pointer (some ⟨b0, 0, none⟩)), (1, .int .i64 a1), (5, v12), (6, .int .i64 i14)] ∧ (∃ o_, spec_l10Gain.l0 x0 a1 k_ xs11 i14 i15 i16 = some o_ ∧ G7 o_ = some (r1, y_)) ∧ St (fun _ => True) w0 W_ [rowM w0.heap.size 3 1 v12 xs11.length I13, boxM b0 #[.slice A0_0 x0.f0.length c0_0, .int .i64 i15, .int .i64 i16] 140, keepM w bs_] [(frameF w b0 bs_), (fun W => (Kd.int .u8).C W A0_0 x0.f0.length x0.f0)] [(fun W => Reps ((Kd.int .i64).K W) (Kd.int .i64).sz xs11 I13)]) k ⟨([] : List Int), v3, ([]), 0, x0.f1, x0.f2, rfl, ⟨_, H, Ho10⟩, (St.pick HS (fun W_ h_ => ⟨AllF.get 0 rfl h_, AllF.get 1 rfl h_, trivial⟩) (fun W_ h_ => ⟨AllF.get 0 rfl h_, trivial⟩))⟩ ⟨rfl, rfl, rfl, rfl, trivial⟩ ?_
  rintro k_ E_ w24 ⟨xs11, v12, I13, i14, i15, i16, rfl, ⟨o9, H, Ho10⟩, HS⟩
  rcases k_ with _ | k25
  · exact no_ H
  exact by (
  replace H : spec_l10Gain.b0 x0 a1 (spec_l10Gain.l0 x0 a1 k25) k25 xs11 i14 i15 i16 = some o9 := H
  unfold spec_l10Gain.b0 at H
  refine WC.seq fun _ hK26 => ?_
  refine sr_ fun _ hK27 => ?_
  refine mv_ ?_
  refine mv_ ?_
  exact by (
  refine b_ bin_lss ?_
  refine dn_ hK27 ?_
  clear hK27
  rcases eti_ H with ⟨c28, H⟩ | ⟨c28, H⟩
  · refine wn_ (dF c28) ?_
    refine WC.exit ?_
    obtain rfl := os H
    exact WQ.via2 (fun _ _ h_ => h_) X17 ⟨xs11, v12, I13, i14, i15, i16, rfl, Ho10, (St.pick HS (fun W_ h_ => ⟨AllF.get 0 rfl h_, AllF.get 1 rfl h_, trivial⟩) (fun W_ h_ => ⟨AllF.get 0 rfl h_, trivial⟩))⟩ ⟨rfl, rfl, rfl, rfl, trivial⟩
  exact by (
  refine wy_ (dT c28) ?_
  refine WC.skip ?_
  refine via_ hK26 ?_
  clear hK26
  refine WC.seq fun _ hK29 => ?_
  refine WC.block ?_
  exact by (
  refine rg_ ?_
  refine mv_ ?_
  refine mv_ ?_
  obtain ⟨t30, ha31, H⟩ := bind_some H
  refine c_ Try.func80 (spec_l01Below.runs k25 b0 (⟨x0.f0, i15, i16⟩ : S140) A0_0 c0_0 100 _ t30.1 t30.2 _ _ HS.b (HS.nodupM 1 rfl) (HS.boundM 1 rfl) (HS.footOM 1 rfl 1 rfl) hc0_0 (HS.mu 1 rfl) ha31) ?_
  clear ha31
  exact by (
  rintro _ w32 ⟨rfl, hbx_, hrest_, hB1_⟩
  replace HS := HS.calledM 1 rfl hB1_ hrest_ hbx_
  dsimp only [List.set] at HS
  clear hB1_ hrest_ hbx_
  refine ⟨_, rfl, ?_⟩
  refine b_ bin_add64 ?_
  exact by (
  refine WL.val rfl rfl (by decide) (Run.lit1 (z := (.int .i64 0)) (vs := [.int .i64 (wrap64 (20 + t30.1))]) rfl rfl rfl Try.underlying25 (by kernel_rfl) (Nat.le_of_ble_eq_true rfl) (Nat.le_of_ble_eq_true rfl)) ?_
  have HS1 := HS.below (below_alloc (Below.refl _ _) (.cells #[.int .i64 (wrap64 (20 + t30.1))] 3))
  obtain ⟨q33, H⟩ := if_some H
  refine WL.append HS1 0 rfl rfl rfl (by decide) rfl (.int .i64 0) 8 Try.underlying25 (by kernel_rfl) rfl (by decide) (by decide) rfl rfl [.int .i64 (wrap64 (20 + t30.1))] rfl (lit_news _ _ _) (one_cons rfl one_nil) (by omega) ((xs11 ++ [wrap64 (20 + t30.1)]).length) (by simp) (fun v34 w35 I36 hI37 HS => ?_)
  dsimp only [List.set] at HS
  replace HS := HS.deriveN (p := (fun W => Reps ((Kd.int .i64).K W) (Kd.int .i64).sz (xs11 ++ [wrap64 (20 + t30.1)]) I36)) (fun W_ hN_ => reps_snoc hI37 (AllF.get 0 rfl hN_) (K_int _))
  exact by (
  clear HS1
  refine as_ ?_
  refine dn_ hK29 ?_
  clear hK29
  refine rg_ ?_
  refine mv_ ?_
  exact by (
  refine b_ bin_add64 ?_
  refine as_ ?_
  refine WL.done ?_
  exact WQ.round k25 (fun _ _ h_ => h_) (Nat.lt_succ_self _) ⟨(xs11 ++ [wrap64 (20 + t30.1)]), v34, I36, (wrap64 (i14 + 1)), t30.2.f1, t30.2.f2, rfl, ⟨_, H, Ho10⟩, (St.pick HS (fun W_ h_ => ⟨AllF.get 0 rfl h_, AllF.get 1 rfl h_, trivial⟩) (fun W_ h_ => ⟨AllF.get 0 rfl h_, trivial⟩))⟩ ⟨rfl, rfl, rfl, rfl, trivial⟩ )))))))))))
def spec_l05Matrix.b1 (x0 : S140) (a1 : Int) (rec_ : (List Int) → Int → Int → Int → Option ((List Int) × Int × Int × Int)) (k97 : Nat) (xs55 : List Int) (i58 : Int) (i59 : Int) (i60 : Int) : Option ((List Int) × Int × Int × Int) := (if i58 < (wrap64 (Int.tdiv a1 4)) then ((spec_l01Below.g k97 (⟨x0.f0, i59, i60⟩ : S140) 20).bind fun t102 => (if (xs55.length) < 4294967296 then (rec_ (xs55 ++ [wrap64 (1 + t102.1)]) (wrap64 (i58 + 1)) t102.2.f1 t102.2.f2) else none)) else (some (xs55, i58, i59, i60)))
def spec_l05Matrix.l1 (x0 : S140) (a1 : Int) : Nat → (List Int) → Int → Int → Int → Option ((List Int) × Int × Int × Int)
  | 0, _, _, _, _ => none
  | k + 1, xs55, i58, i59, i60 => spec_l05Matrix.b1 x0 a1 (spec_l05Matrix.l1 x0 a1 k) k xs55 i58 i59 i60
def spec_l05Matrix.b0 (x0 : S140) (a1 : Int) (a2 : Int) (rec_ : Int → Int → Int → (List (List Int)) → (List (List Int)) → Option (Int × Int × Int × (List (List Int)) × (List (List Int)))) (k41 : Nat) (i20 : Int) (i21 : Int) (i22 : Int) (xs23 : List (List Int)) (xs26 : List (List Int)) : Option (Int × Int × Int × (List (List Int)) × (List (List Int))) := (if i20 < a2 then ((spec_l05Matrix.l1 x0 a1 k41 ([] : List Int) 0 i21 i22).bind (fun o95 => ((spec_l04Small.g k41 (⟨x0.f0, o95.2.2.1, o95.2.2.2⟩ : S140) a1).bind fun t67 => (if (xs23.length) < 4294967296 then (if (xs26.length) < 4294967296 then (rec_ (wrap64 (i20 + 1)) t67.2.f1 t67.2.f2 (xs23 ++ [t67.1]) (xs26 ++ [o95.1])) else none) else none)))) else (some (i20, i21, i22, xs23, xs26)))
def spec_l05Matrix.l0 (x0 : S140) (a1 : Int) (a2 : Int) : Nat → Int → Int → Int → (List (List Int)) → (List (List Int)) → Option (Int × Int × Int × (List (List Int)) × (List (List Int)))
  | 0, _, _, _, _, _ => none
  | k + 1, i20, i21, i22, xs23, xs26 => spec_l05Matrix.b0 x0 a1 a2 (spec_l05Matrix.l0 x0 a1 a2 k) k i20 i21 i22 xs23 xs26
def spec_l05Matrix.g (k : Nat) (x0 : S140) (a1 : Int) (a2 : Int) : Option (S36 × S140) := ((spec_l01Below.g k (⟨x0.f0, x0.f1, x0.f2⟩ : S140) 40).bind fun t5 => ((spec_l01Below.g k (⟨x0.f0, t5.2.f1, t5.2.f2⟩ : S140) 5).bind fun t8 => ((spec_l05Matrix.l0 x0 a1 a2 k 0 t8.2.f1 t8.2.f2 ([] : List (List Int)) ([] : List (List Int))).bind (fun o39 => (some ((⟨a1, o39.2.2.2.1, o39.2.2.2.2, wrap64 (1 + t5.1), wrap64 (6 + t8.1)⟩ : S36), (⟨x0.f0, o39.2.1, o39.2.2.1⟩ : S140)))))))
theorem spec_l05Matrix.runs (k : Nat) (b0 : Nat) (x0 : S140) (A0_0 : Option Addr) (c0_0 : Nat) (a1 : Int) (a2 : Int) (bs_ : List Nat) (r1 : S36) (y_ : S140) (w0 w : World) (hB_ : Below w0.heap.size w0 w) (hn_ : (b0 :: bs_).Nodup) (hl_ : ∀ k, k ∈ b0 :: bs_ → w0.heap.size ≤ k ∧ k < w.heap.size) (hr0_0 : Foot (fun W => (Kd.int .u8).C W A0_0 x0.f0.length x0.f0) w (fun k_ => k_ ∉ b0 :: bs_)) (hc0_0 : x0.f0.length ≤ c0_0) (hb0 : w.heap[b0]? = some (.cells #[.slice A0_0 x0.f0.length c0_0, .int .i64 x0.f1, .int .i64 x0.f2] 140 (0, 0))) (H : spec_l05Matrix.g k x0 a1 a2 = some (r1, y_)) :
    Calls Try.prog 131 #[.pointer (some ⟨b0, 0, none⟩), .int .i64 a1, .int .i64 a2] w fun e w' => ∃ (A0_1_ : Option Addr) (c0_1_ : Nat) (A0_2_ : Option Addr) (c0_2_ : Nat), e = .returned (.agg #[.int .i64 r1.f0, .slice A0_1_ r1.f1.length c0_1_, .slice A0_2_ r1.f2.length c0_2_, .int .i64 r1.f3, .int .i64 r1.f4]) ∧ r1.f1.length ≤ c0_1_ ∧ Foot (fun W => (Kd.slice 3 (Kd.int .i64)).C W A0_1_ r1.f1.length r1.f1) w' (fun k_ => w0.heap.size ≤ k_ ∧ k_ ∉ b0 :: bs_) ∧ r1.f2.length ≤ c0_2_ ∧ Foot (fun W => (Kd.slice 3 (Kd.int .i64)).C W A0_2_ r1.f2.length r1.f2) w' (fun k_ => w0.heap.size ≤ k_ ∧ k_ ∉ b0 :: bs_) ∧ w'.heap[b0]? = some (.cells #[.slice A0_0 x0.f0.length c0_0, .int .i64 y_.f1, .int .i64 y_.f2] 140 (0, 0)) ∧ RestOf w w' b0 ∧ Below w0.heap.size w0 w' := by
  unfold spec_l05Matrix.g at H
  have HS : St (fun _ => True) w0 w [boxM b0 #[.slice A0_0 x0.f0.length c0_0, .int .i64 x0.f1, .int .i64 x0.f2] 140, keepM w bs_] [(frameF w b0 bs_), (fun W => (Kd.int .u8).C W A0_0 x0.f0.length x0.f0)] [] := St.startM hB_ hn_ hl_ hb0 (foot_cons hr0_0 foot_nil)
  refine cw_ (n := 52) Try.func131 fun R_ hR_ => ?_
  refine sr_ fun _ hK1 => ?_
  refine WL.alloc HS (v := .agg #[.int .i64 0, .slice none 0 0, .slice none 0 0, .int .i64 0, .int .i64 0]) (cs := #[.int .i64 0, .slice none 0 0, .slice none 0 0, .int .i64 0, .int .i64 0]) rfl rfl (by decide) rfl (by kernel_rfl) rfl (fun b2 w3 hb2 HS => ?_)
  refine dn_ hK1 ?_
  exact by (
  clear hK1
  refine sr_ fun _ hK4 => ?_
  refine mv_ ?_
  refine mv_ ?_
  obtain ⟨t5, ha6, H⟩ := bind_some H
  refine c_ Try.func80 (spec_l01Below.runs k b0 (⟨x0.f0, x0.f1, x0.f2⟩ : S140) A0_0 c0_0 40 _ t5.1 t5.2 _ _ HS.b (HS.nodupM 1 rfl) (HS.boundM 1 rfl) (HS.footOM 1 rfl 1 rfl) hc0_0 (HS.mu 1 rfl) ha6) ?_
  exact by (
  clear ha6
  rintro _ w7 ⟨rfl, hbx_, hrest_, hB1_⟩
  replace HS := HS.calledM 1 rfl hB1_ hrest_ hbx_
  dsimp only [List.set] at HS
  clear hB1_ hrest_ hbx_
  refine ⟨_, rfl, ?_⟩
  exact by (
  refine b_ bin_add64 ?_
  refine mv_ ?_
  obtain ⟨t8, ha9, H⟩ := bind_some H
  refine c_ Try.func80 (spec_l01Below.runs k b0 (⟨x0.f0, t5.2.f1, t5.2.f2⟩ : S140) A0_0 c0_0 5 _ t8.1 t8.2 _ _ HS.b (HS.nodupM 1 rfl) (HS.boundM 1 rfl) (HS.footOM 1 rfl 1 rfl) hc0_0 (HS.mu 1 rfl) ha9) ?_
  clear ha9
  rintro _ w10 ⟨rfl, hbx_, hrest_, hB1_⟩
  exact by (
  replace HS := HS.calledM 1 rfl hB1_ hrest_ hbx_
  dsimp only [List.set] at HS
  clear hB1_ hrest_ hbx_
  refine ⟨_, rfl, ?_⟩
  refine b_ bin_add64 ?_
  refine v_ (Run.build (cells := #[.int .i64 a1, .slice none 0 0, .slice none 0 0, .int .i64 (wrap64 (1 + t5.1)), .int .i64 (wrap64 (6 + t8.1))]) rfl [(0, .int .i64 a1), (3, .int .i64 (wrap64 (1 + t5.1))), (4, .int .i64 (wrap64 (6 + t8.1)))] ⟨⟨rfl, rfl⟩, ⟨⟨rfl, rfl⟩, ⟨⟨rfl, rfl⟩, trivial⟩⟩⟩ (by kernel_rfl)) ?_
  exact by (
  refine WL.alloc HS (v := .agg #[.int .i64 0, .slice none 0 0, .slice none 0 0, .int .i64 0, .int .i64 0]) (cs := #[.int .i64 0, .slice none 0 0, .slice none 0 0, .int .i64 0, .int .i64 0]) rfl rfl (by decide) rfl (by kernel_rfl) rfl (fun b11 w12 hb11 HS => ?_)
  refine WL.storeS HS 0 (vs := [.int .i64 a1, .slice none 0 0, .slice none 0 0, .int .i64 (wrap64 (1 + t5.1)), .int .i64 (wrap64 (6 + t8.1))]) rfl rfl rfl rfl rfl rfl (one_cons rfl (one_cons rfl (one_cons rfl (one_cons rfl (one_cons rfl one_nil))))) (by kernel_rfl) (Nat.le_of_ble_eq_true rfl) (cs' := #[.int .i64 a1, .slice none 0 0, .slice none 0 0, .int .i64 (wrap64 (1 + t5.1)), .int .i64 (wrap64 (6 + t8.1))]) (by kernel_rfl) (fun w13 HS => ?_)
  dsimp only [List.set] at HS
  refine dn_ hK4 ?_
  clear hK4
  refine WC.seq fun K14 hK14 => ?_
  exact by (
  refine sr_ fun _ hK15 => ?_
  refine as_ ?_
  refine dn_ hK15 ?_
  clear hK15
  refine WC.block ?_
  replace HS := HS.rowNil 25 1
  exact by (
  replace HS := HS.deriveN (p := (fun W => Reps ((Kd.slice 3 (Kd.int .i64)).K W) (Kd.slice 3 (Kd.int .i64)).sz ([] : List (List Int)) [])) (fun _ _ => Reps.none _ _)
  replace HS := HS.rowNil 25 1
  replace HS := HS.deriveN (p := (fun W => Reps ((Kd.slice 3 (Kd.int .i64)).K W) (Kd.slice 3 (Kd.int .i64)).sz ([] : List (List Int)) [])) (fun _ _ => Reps.none _ _)
  obtain ⟨G16, hG17, o18, H, Ho19⟩ := open_G H
  have X29 : ∀ E_ W_, (∃ (i20 : Int) (i21 : Int) (i22 : Int) (xs23 : List (List Int)) (v24 : Value) (I25 : List Value) (xs26 : List (List Int)) (v27 : Value) (I28 : List Value), E_ = [(0, .pointer (some ⟨b0, 0, none⟩)), (1, .int .i64 a1), (2, .int .i64 a2), (6, .pointer (some ⟨b2, 0, none⟩)), (7, .pointer (some ⟨b11, 0, none⟩)), (8, .int .i64 i20)] ∧ G16 (i20, i21, i22, xs23, xs26) = some (r1, y_) ∧ St (fun _ => True) w0 W_ [rowM w0.heap.size 25 1 v27 xs26.length I28, rowM w0.heap.size 25 1 v24 xs23.length I25, boxM b11 #[.int .i64 a1, v24, v27, .int .i64 (wrap64 (1 + t5.1)), .int .i64 (wrap64 (6 + t8.1))] 36, boxM b2 #[.int .i64 0, .slice none 0 0, .slice none 0 0, .int .i64 0, .int .i64 0] 36, boxM b0 #[.slice A0_0 x0.f0.length c0_0, .int .i64 i21, .int .i64 i22] 140, keepM w bs_] [(frameF w b0 bs_), (fun W => (Kd.int .u8).C W A0_0 x0.f0.length x0.f0)] [(fun W => Reps ((Kd.slice 3 (Kd.int .i64)).K W) (Kd.slice 3 (Kd.int .i64)).sz xs26 I28), (fun W => Reps ((Kd.slice 3 (Kd.int .i64)).K W) (Kd.slice 3 (Kd.int .i64)).sz xs23 I25)]) → ∀ a, Fits a 52 E_ → K14 a W_ := by
    rintro E_ w30 ⟨i20, i21, i22, xs23, v24, I25, xs26, v27, I28, rfl, H, HS⟩
    exact by (
    rw [hG17] at H
    (try dsimp only at H)
    refine hK14 _ _ ?_
    clear hK14
    refine sr_ fun _ hK31 => ?_
    obtain ⟨A32, c33, rfl⟩ := row_slice (HS.mu 1 rfl)
    exact by (
    obtain ⟨A34, c35, rfl⟩ := row_slice (HS.mu 0 rfl)
    refine v_ (ls_ (HS.mu 2 rfl) Try.underlying36 part_all) ?_
    refine WL.storeS HS 3 (vs := [.int .i64 a1, (.slice A32 xs23.length c33), (.slice A34 xs26.length c35), .int .i64 (wrap64 (1 + t5.1)), .int .i64 (wrap64 (6 + t8.1))]) rfl rfl rfl rfl rfl rfl (one_cons rfl (one_cons rfl (one_cons rfl (one_cons rfl (one_cons rfl one_nil))))) (by kernel_rfl) (Nat.le_of_ble_eq_true rfl) (cs' := #[.int .i64 a1, (.slice A32 xs23.length c33), (.slice A34 xs26.length c35), .int .i64 (wrap64 (1 + t5.1)), .int .i64 (wrap64 (6 + t8.1))]) (by kernel_rfl) (fun w36 HS => ?_)
    dsimp only [List.set] at HS
    refine dn_ hK31 ?_
    clear hK31
    exact by (
    refine WC.ret ?_
    have le37 := row_le (HS.mu 1 rfl)
    replace HS := HS.freezeN 1 (p := (fun W => (Kd.slice 3 (Kd.int .i64)).C W A32 (xs23).length (xs23))) rfl (fun W_ hm_ h_ => row_C (by rfl) hm_ (AllF.get 1 rfl h_))
    dsimp only [List.eraseIdx] at HS
    have le38 := row_le (HS.mu 0 rfl)
    replace HS := HS.freezeN 0 (p := (fun W => (Kd.slice 3 (Kd.int .i64)).C W A34 (xs26).length (xs26))) rfl (fun W_ hm_ h_ => row_C (by rfl) hm_ (AllF.get 1 rfl h_))
    exact by (
    dsimp only [List.eraseIdx] at HS
    obtain ⟨rfl, rfl⟩ := Prod.mk.inj (os H)
    have HSf := (St.forget (St.forget HS 1 rfl) 0 rfl)
    exact fin1 Try.f131 rfl ⟨_, rfl, resv_box (HS.mu 1 rfl) Try.underlying36 rfl (by kernel_rfl)⟩ hR_ ⟨_, _, _, _, rfl, le37, (foot_freshM (HSf.footN 1 rfl)), le38, (foot_freshM (HSf.footN 0 rfl)), (HSf.mu 0 rfl), (rest_of (HSf.getO 0 rfl) (HSf.mu 1 rfl)), HSf.b⟩ ))))
  clear hK14
  refine WC.loop (fun k_ E_ W_ => ∃ (i20 : Int) (i21 : Int) (i22 : Int) (xs23 : List (List Int)) (v24 : Value) (I25 : List Value) (xs26 : List (List Int)) (v27 : Value) (I28 : List Value), E_ = [(0, .pointer (some ⟨b0, 0, none⟩)), (1, .int .i64 a1), (2, .int .i64 a2), (6, .pointer (some ⟨b2, 0, none⟩)), (7, .pointer (some ⟨b11, 0, none⟩)), (8, .int .i64 i20)] ∧ (∃ o_, spec_l05Matrix.l0 x0 a1 a2 k_ i20 i21 i22 xs23 xs26 = some o_ ∧ G16 o_ = some (r1, y_)) ∧ St (fun _ => True) w0 W_ [rowM w0.heap.size 25 1 v27 xs26.length I28, rowM w0.heap.size 25 1 v24 xs23.length I25, boxM b11 #[.int .i64 a1, v24, v27, .int .i64 (wrap64 (1 + t5.1)), .int .i64 (wrap64 (6 + t8.1))] 36, boxM b2 #[.int .i64 0, .slice none 0 0, .slice none 0 0, .int .i64 0, .int .i64 0] 36, boxM b0 #[.slice A0_0 x0.f0.length c0_0, .int .i64 i21, .int .i64 i22] 140, keepM w bs_] [(frameF w b0 bs_), (fun W => (Kd.int .u8).C W A0_0 x0.f0.length x0.f0)] [(fun W => Reps ((Kd.slice 3 (Kd.int .i64)).K W) (Kd.slice 3 (Kd.int .i64)).sz xs26 I28), (fun W => Reps ((Kd.slice 3 (Kd.int .i64)).K W) (Kd.slice 3 (Kd.int .i64)).sz xs23 I25)]) k ⟨0, t8.2.f1, t8.2.f2, ([] : List (List Int)), (.slice none 0 0), ([]), ([] : List (List Int)), (.slice none 0 0), ([]), rfl, ⟨_, H, Ho19⟩, (St.pick HS (fun W_ h_ => ⟨AllF.get 0 rfl h_, AllF.get 1 rfl h_, trivial⟩) (fun W_ h_ => ⟨AllF.get 0 rfl h_, AllF.get 1 rfl h_, trivial⟩))⟩ ⟨rfl, rfl, rfl, rfl, rfl, rfl, trivial⟩ ?_
  exact by (
  rintro k_ E_ w40 ⟨i20, i21, i22, xs23, v24, I25, xs26, v27, I28, rfl, ⟨o18, H, Ho19⟩, HS⟩
  rcases k_ with _ | k41
  · exact no_ H
  replace H : spec_l05Matrix.b0 x0 a1 a2 (spec_l05Matrix.l0 x0 a1 a2 k41) k41 i20 i21 i22 xs23 xs26 = some o18 := H
  unfold spec_l05Matrix.b0 at H
  refine WC.seq fun _ hK42 => ?_
  exact by (
  refine sr_ fun _ hK43 => ?_
  refine mv_ ?_
  refine mv_ ?_
  refine b_ bin_lss ?_
  refine dn_ hK43 ?_
  clear hK43
  exact by (
  rcases eti_ H with ⟨c44, H⟩ | ⟨c44, H⟩
  · refine wn_ (dF c44) ?_
    refine WC.exit ?_
    obtain rfl := os H
    exact WQ.via2 (fun _ _ h_ => h_) X29 ⟨i20, i21, i22, xs23, v24, I25, xs26, v27, I28, rfl, Ho19, (St.pick HS (fun W_ h_ => ⟨AllF.get 0 rfl h_, AllF.get 1 rfl h_, trivial⟩) (fun W_ h_ => ⟨AllF.get 0 rfl h_, AllF.get 1 rfl h_, trivial⟩))⟩ ⟨rfl, rfl, rfl, rfl, rfl, rfl, trivial⟩
  refine wy_ (dT c44) ?_
  exact by (
  refine WC.skip ?_
  refine via_ hK42 ?_
  clear hK42
  refine WC.seq fun _ hK45 => ?_
  refine WC.block ?_
  refine sr_ fun _ hK46 => ?_
  exact by (
  refine WL.lit0 HS rfl rfl (by decide) rfl Try.underlying25 (sz := 1) (by kernel_rfl) (fun v47 w48 HS => ?_)
  replace HS := HS.deriveN (p := (fun W => Reps ((Kd.int .i64).K W) (Kd.int .i64).sz ([] : List Int) [])) (fun _ _ => Reps.none _ _)
  refine as_ ?_
  refine dn_ hK46 ?_
  clear hK46
  refine WC.seq fun K49 hK49 => ?_
  exact by (
  refine sr_ fun _ hK50 => ?_
  refine as_ ?_
  refine dn_ hK50 ?_
  clear hK50
  refine WC.block ?_
  obtain ⟨G51, hG52, o53, H, Ho54⟩ := open_G H
  exact by (
  have X61 : ∀ E_ W_, (∃ (xs55 : List Int) (v56 : Value) (I57 : List Value) (i58 : Int) (i59 : Int) (i60 : Int), E_ = [(0, .pointer (some ⟨b0, 0, none⟩)), (1, .int .i64 a1), (2, .int .i64 a2), (6, .pointer (some ⟨b2, 0, none⟩)), (7, .pointer (some ⟨b11, 0, none⟩)), (8, .int .i64 i20), (9, v56), (10, .int .i64 i58)] ∧ G51 (xs55, i58, i59, i60) = some o18 ∧ St (fun _ => True) w0 W_ [rowM w0.heap.size 3 1 v56 xs55.length I57, rowM w0.heap.size 25 1 v27 xs26.length I28, rowM w0.heap.size 25 1 v24 xs23.length I25, boxM b11 #[.int .i64 a1, v24, v27, .int .i64 (wrap64 (1 + t5.1)), .int .i64 (wrap64 (6 + t8.1))] 36, boxM b2 #[.int .i64 0, .slice none 0 0, .slice none 0 0, .int .i64 0, .int .i64 0] 36, boxM b0 #[.slice A0_0 x0.f0.length c0_0, .int .i64 i59, .int .i64 i60] 140, keepM w bs_] [(frameF w b0 bs_), (fun W => (Kd.int .u8).C W A0_0 x0.f0.length x0.f0)] [(fun W => Reps ((Kd.int .i64).K W) (Kd.int .i64).sz xs55 I57), (fun W => Reps ((Kd.slice 3 (Kd.int .i64)).K W) (Kd.slice 3 (Kd.int .i64)).sz xs26 I28), (fun W => Reps ((Kd.slice 3 (Kd.int .i64)).K W) (Kd.slice 3 (Kd.int .i64)).sz xs23 I25)]) → ∀ a, Fits a 52 E_ → K49 a W_ := by
    rintro E_ w62 ⟨xs55, v56, I57, i58, i59, i60, rfl, H, HS⟩
    rw [hG52] at H
    (try dsimp only at H)
    refine hK49 _ _ ?_
    clear hK49
    exact by (
    refine WC.seq fun _ hK63 => ?_
    refine WC.drawW HS [boxM b11 #[.int .i64 a1, v24, v27, .int .i64 (wrap64 (1 + t5.1)), .int .i64 (wrap64 (6 + t8.1))] 36, boxM b2 #[.int .i64 0, .slice none 0 0, .slice none 0 0, .int .i64 0, .int .i64 0] 36] (fun _ HS => ⟨(HS.mu 3 rfl), (HS.mu 4 rfl), trivial⟩) [8] rfl rfl (fun w64 HS => ?_)
    refine df_ 0 Try.underlying36 ?_
    refine dm_ 2 ?_
    refine dm_ 3 ?_
    obtain ⟨A65, c66, rfl⟩ := row_slice (HS.mu 2 rfl)
    exact by (
    refine dt_ 1 ⟨HS.nowO, HS.nowN, ⟨(HS.mu 3 rfl), (HS.mu 4 rfl), trivial⟩⟩ (fun w_ hw_ => Run.load rfl rfl Try.underlying23 rfl (box_cell hw_.2.2.1 rfl)) ?_
    obtain ⟨t67, ha68, H⟩ := bind_some H
    refine dc_ 4 (w_none rfl) Try.func151 (spec_l04Small.runs k41 b0 (⟨x0.f0, i59, i60⟩ : S140) A0_0 c0_0 a1 _ t67.1 t67.2 _ _ HS.b (HS.nodupM 5 rfl) (HS.boundM 5 rfl) (HS.footOM 5 rfl 1 rfl) hc0_0 (HS.mu 5 rfl) ha68) ?_
    clear ha68
    rintro _ w69 ⟨A70, c71, rfl, le72, hf73, hbx_, hrest_, hB1_⟩
    replace HS := HS.newM 5 rfl hB1_ hrest_ hbx_ (foot_cons hf73 foot_nil)
    exact by (
    dsimp only [List.set] at HS
    clear hB1_ hrest_ hbx_
    refine ⟨⟨HS.nowO, HS.nowN.2, ⟨(HS.mu 3 rfl), (HS.mu 4 rfl), trivial⟩⟩, _, rfl, ?_⟩
    have HS1 := HS.below (below_alloc (Below.refl _ _) (.cells #[.slice A70 t67.1.length c71] 25))
    refine dv_ 5 (w_none rfl) (Run.lit1 (z := (.slice none 0 0)) (vs := [.slice A70 t67.1.length c71]) rfl rfl rfl Try.underlying23 (by kernel_rfl) (Nat.le_of_ble_eq_true rfl) (Nat.le_of_ble_eq_true rfl)) ⟨HS1.nowO, HS1.nowN.2, ⟨(HS1.mu 3 rfl), (HS1.mu 4 rfl), trivial⟩⟩ ?_
    obtain ⟨q74, H⟩ := if_some H
    exact by (
    refine WD.append 6 (w_none rfl) HS1 2 rfl rfl (.slice none 0 0) 24 Try.underlying23 (by kernel_rfl) rfl (by decide) (by decide) rfl rfl [.slice A70 t67.1.length c71] rfl (lit_news _ _ _) (one_cons rfl one_nil) (by omega) ((xs23 ++ [t67.1]).length) (by simp) (fun v75 w76 I77 hI78 HS => ?_)
    dsimp only [List.set] at HS
    replace HS := HS.deriveN (p := (fun W => Reps ((Kd.slice 3 (Kd.int .i64)).K W) (Kd.slice 3 (Kd.int .i64)).sz (xs23 ++ [t67.1]) I77)) (fun W_ hN_ => reps_snoc hI78 (AllF.get 3 rfl hN_) (K_slice le72 (AllF.get 0 rfl hN_)))
    clear HS1
    refine ⟨⟨HS.nowO, HS.nowN.2.2, ⟨(HS.mu 3 rfl), (HS.mu 4 rfl), trivial⟩⟩, ?_⟩
    refine df_ 7 Try.underlying36 ?_
    exact by (
    obtain ⟨A80, c81, rfl⟩ := row_slice (HS.mu 2 rfl)
    refine WD.storeL 8 HS 3 rfl rfl rfl rfl rfl (by kernel_rfl) (Nat.le_of_ble_eq_true rfl) (cs' := #[.int .i64 a1, (.slice A80 ((xs23 ++ [t67.1]).length) c81), v27, .int .i64 (wrap64 (1 + t5.1)), .int .i64 (wrap64 (6 + t8.1))]) (by kernel_rfl) (fun w79 HS => ?_)
    dsimp only [List.set] at HS
    refine dd_ ?_
    refine via_ hK63 ?_
    clear hK63
    exact by (
    refine rg_ ?_
    refine v_ (fa_ Try.underlying36) ?_
    obtain ⟨A82, c83, rfl⟩ := row_slice (HS.mu 1 rfl)
    refine v_ (lb_ (HS.mu 3 rfl) Try.underlying23 rfl) ?_
    refine mv_ ?_
    obtain ⟨A84, c85, rfl⟩ := row_slice (HS.mu 0 rfl)
    exact by (
    have le86 := row_le (HS.mu 0 rfl)
    replace HS := HS.freezeN 0 (p := (fun W => (Kd.int .i64).C W A84 (xs55).length (xs55))) rfl (fun W_ hm_ h_ => row_C (by rfl) hm_ (AllF.get 2 rfl h_))
    dsimp only [List.eraseIdx] at HS
    refine WL.val rfl rfl (by decide) (Run.lit1 (z := (.slice none 0 0)) (vs := [.slice A84 xs55.length c85]) rfl rfl rfl Try.underlying23 (by kernel_rfl) (Nat.le_of_ble_eq_true rfl) (Nat.le_of_ble_eq_true rfl)) ?_
    have HS1 := HS.below (below_alloc (Below.refl _ _) (.cells #[.slice A84 xs55.length c85] 25))
    obtain ⟨q87, H⟩ := if_some H
    exact by (
    refine WL.append HS1 0 rfl rfl rfl (by decide) rfl (.slice none 0 0) 24 Try.underlying23 (by kernel_rfl) rfl (by decide) (by decide) rfl rfl [.slice A84 xs55.length c85] rfl (lit_news _ _ _) (one_cons rfl one_nil) (by omega) ((xs26 ++ [xs55]).length) (by simp) (fun v88 w89 I90 hI91 HS => ?_)
    dsimp only [List.set] at HS
    replace HS := HS.deriveN (p := (fun W => Reps ((Kd.slice 3 (Kd.int .i64)).K W) (Kd.slice 3 (Kd.int .i64)).sz (xs26 ++ [xs55]) I90)) (fun W_ hN_ => reps_snoc hI91 (AllF.get 4 rfl hN_) (K_slice le86 (AllF.get 0 rfl hN_)))
    clear HS1
    refine v_ (fa_ Try.underlying36) ?_
    obtain ⟨A93, c94, rfl⟩ := row_slice (HS.mu 0 rfl)
    exact by (
    refine WL.store HS 2 rfl rfl rfl rfl rfl rfl rfl (by kernel_rfl) (Nat.le_of_ble_eq_true rfl) (cs' := #[.int .i64 a1, (.slice A80 ((xs23 ++ [t67.1]).length) c81), (.slice A93 ((xs26 ++ [xs55]).length) c94), .int .i64 (wrap64 (1 + t5.1)), .int .i64 (wrap64 (6 + t8.1))]) (by kernel_rfl) (fun w92 HS => ?_)
    dsimp only [List.set] at HS
    refine dn_ hK45 ?_
    clear hK45
    refine rg_ ?_
    refine mv_ ?_
    exact by (
    refine b_ bin_add64 ?_
    refine as_ ?_
    refine WL.done ?_
    exact WQ.round k41 (fun _ _ h_ => h_) (Nat.lt_succ_self _) ⟨(wrap64 (i20 + 1)), t67.2.f1, t67.2.f2, (xs23 ++ [t67.1]), (.slice A80 ((xs23 ++ [t67.1]).length) c81), I77, (xs26 ++ [xs55]), (.slice A93 ((xs26 ++ [xs55]).length) c94), I90, rfl, ⟨_, H, Ho19⟩, (St.pick HS (fun W_ h_ => ⟨AllF.get 0 rfl h_, AllF.get 1 rfl h_, trivial⟩) (fun W_ h_ => ⟨AllF.get 0 rfl h_, AllF.get 2 rfl h_, trivial⟩))⟩ ⟨rfl, rfl, rfl, rfl, rfl, rfl, trivial⟩ ))))))))))
  clear hK49
  refine WC.loop (fun k_ E_ W_ => ∃ (xs55 : List Int) (v56 : Value) (I57 : List Value) (i58 : Int) (i59 : Int) (i60 : Int), E_ = [(0, .pointer (some ⟨b0, 0, none⟩)), (1, .int .i64 a1), (2, .int .i64 a2), (6, .pointer (some ⟨b2, 0, none⟩)), (7, .pointer (some ⟨b11, 0, none⟩)), (8, .int .i64 i20), (9, v56), (10, .int .i64 i58)] ∧ (∃ o_, spec_l05Matrix.l1 x0 a1 k_ xs55 i58 i59 i60 = some o_ ∧ G51 o_ = some o18) ∧ St (fun _ => True) w0 W_ [rowM w0.heap.size 3 1 v56 xs55.length I57, rowM w0.heap.size 25 1 v27 xs26.length I28, rowM w0.heap.size 25 1 v24 xs23.length I25, boxM b11 #[.int .i64 a1, v24, v27, .int .i64 (wrap64 (1 + t5.1)), .int .i64 (wrap64 (6 + t8.1))] 36, boxM b2 #[.int .i64 0, .slice none 0 0, .slice none 0 0, .int .i64 0, .int .i64 0] 36, boxM b0 #[.slice A0_0 x0.f0.length c0_0, .int .i64 i59, .int .i64 i60] 140, keepM w bs_] [(frameF w b0 bs_), (fun W => (Kd.int .u8).C W A0_0 x0.f0.length x0.f0)] [(fun W => Reps ((Kd.int .i64).K W) (Kd.int .i64).sz xs55 I57), (fun W => Reps ((Kd.slice 3 (Kd.int .i64)).K W) (Kd.slice 3 (Kd.int .i64)).sz xs26 I28), (fun W => Reps ((Kd.slice 3 (Kd.int .i64)).K W) (Kd.slice 3 (Kd.int .i64)).sz xs23 I25)]) k41 ⟨([] : List Int), v47, ([]), 0, i21, i22, rfl, ⟨_, H, Ho54⟩, (St.pick HS (fun W_ h_ => ⟨AllF.get 0 rfl h_, AllF.get 1 rfl h_, trivial⟩) (fun W_ h_ => ⟨AllF.get 0 rfl h_, AllF.get 1 rfl h_, AllF.get 2 rfl h_, trivial⟩))⟩ ⟨rfl, rfl, rfl, rfl, rfl, rfl, rfl, rfl, trivial⟩ ?_
  exact by (
  rintro k_ E_ w96 ⟨xs55, v56, I57, i58, i59, i60, rfl, ⟨o53, H, Ho54⟩, HS⟩
  rcases k_ with _ | k97
  · exact no_ H
  replace H : spec_l05Matrix.b1 x0 a1 (spec_l05Matrix.l1 x0 a1 k97) k97 xs55 i58 i59 i60 = some o53 := H
  unfold spec_l05Matrix.b1 at H
  refine WC.seq fun _ hK98 => ?_
  exact by (
  refine sr_ fun _ hK99 => ?_
  refine mv_ ?_
  refine mv_ ?_
  refine v_ (Run.bin rfl rfl rfl (bin_quo64 (show (4 : Int) ≠ 0 by decide))) ?_
  refine b_ bin_lss ?_
  refine dn_ hK99 ?_
  exact by (
  clear hK99
  rcases eti_ H with ⟨c100, H⟩ | ⟨c100, H⟩
  · refine wn_ (dF c100) ?_
    refine WC.exit ?_
    obtain rfl := os H
    exact WQ.via2 (fun _ _ h_ => h_) X61 ⟨xs55, v56, I57, i58, i59, i60, rfl, Ho54, (St.pick HS (fun W_ h_ => ⟨AllF.get 0 rfl h_, AllF.get 1 rfl h_, trivial⟩) (fun W_ h_ => ⟨AllF.get 0 rfl h_, AllF.get 1 rfl h_, AllF.get 2 rfl h_, trivial⟩))⟩ ⟨rfl, rfl, rfl, rfl, rfl, rfl, rfl, rfl, trivial⟩
  exact by (
  refine wy_ (dT c100) ?_
  refine WC.skip ?_
  refine via_ hK98 ?_
  clear hK98
  refine WC.seq fun _ hK101 => ?_
  refine WC.block ?_
  exact by (
  refine rg_ ?_
  refine mv_ ?_
  refine mv_ ?_
  obtain ⟨t102, ha103, H⟩ := bind_some H
  refine c_ Try.func80 (spec_l01Below.runs k97 b0 (⟨x0.f0, i59, i60⟩ : S140) A0_0 c0_0 20 _ t102.1 t102.2 _ _ HS.b (HS.nodupM 5 rfl) (HS.boundM 5 rfl) (HS.footOM 5 rfl 1 rfl) hc0_0 (HS.mu 5 rfl) ha103) ?_
  clear ha103
  exact by (
  rintro _ w104 ⟨rfl, hbx_, hrest_, hB1_⟩
  replace HS := HS.calledM 5 rfl hB1_ hrest_ hbx_
  dsimp only [List.set] at HS
  clear hB1_ hrest_ hbx_
  refine ⟨_, rfl, ?_⟩
  refine b_ bin_add64 ?_
  exact by (
  refine WL.val rfl rfl (by decide) (Run.lit1 (z := (.int .i64 0)) (vs := [.int .i64 (wrap64 (1 + t102.1))]) rfl rfl rfl Try.underlying25 (by kernel_rfl) (Nat.le_of_ble_eq_true rfl) (Nat.le_of_ble_eq_true rfl)) ?_
  have HS1 := HS.below (below_alloc (Below.refl _ _) (.cells #[.int .i64 (wrap64 (1 + t102.1))] 3))
  obtain ⟨q105, H⟩ := if_some H
  refine WL.append HS1 0 rfl rfl rfl (by decide) rfl (.int .i64 0) 8 Try.underlying25 (by kernel_rfl) rfl (by decide) (by decide) rfl rfl [.int .i64 (wrap64 (1 + t102.1))] rfl (lit_news _ _ _) (one_cons rfl one_nil) (by omega) ((xs55 ++ [wrap64 (1 + t102.1)]).length) (by simp) (fun v106 w107 I108 hI109 HS => ?_)
  dsimp only [List.set] at HS
  replace HS := HS.deriveN (p := (fun W => Reps ((Kd.int .i64).K W) (Kd.int .i64).sz (xs55 ++ [wrap64 (1 + t102.1)]) I108)) (fun W_ hN_ => reps_snoc hI109 (AllF.get 0 rfl hN_) (K_int _))
  exact by (
  clear HS1
  refine as_ ?_
  refine dn_ hK101 ?_
  clear hK101
  refine rg_ ?_
  refine mv_ ?_
  exact by (
  refine b_ bin_add64 ?_
  refine as_ ?_
  refine WL.done ?_
  exact WQ.round k97 (fun _ _ h_ => h_) (Nat.lt_succ_self _) ⟨(xs55 ++ [wrap64 (1 + t102.1)]), v106, I108, (wrap64 (i58 + 1)), t102.2.f1, t102.2.f2, rfl, ⟨_, H, Ho54⟩, (St.pick HS (fun W_ h_ => ⟨AllF.get 0 rfl h_, AllF.get 1 rfl h_, trivial⟩) (fun W_ h_ => ⟨AllF.get 0 rfl h_, AllF.get 2 rfl h_, AllF.get 3 rfl h_, trivial⟩))⟩ ⟨rfl, rfl, rfl, rfl, rfl, rfl, rfl, rfl, trivial⟩ )))))))))))))))))))))))
def spec_l07Merges.b0 (x0 : S140) (rec_ : (List S112) → Int → Int → Int → Option (((List S112) × S140) ⊕ ((List S112) × Int × Int × Int))) (k25 : Nat) (xs11 : List S112) (i14 : Int) (i15 : Int) (i16 : Int) : Option (((List S112) × S140) ⊕ ((List S112) × Int × Int × Int)) := ((spec_l01Below.g k25 (⟨x0.f0, i15, i16⟩ : S140) 9).bind fun t28 => (if i14 < t28.1 then ((((spec_l01Below.g k25 (⟨x0.f0, t28.2.f1, t28.2.f2⟩ : S140) 3).bind fun t46 => ((spec_l01Below.g k25 (⟨x0.f0, t46.2.f1, t46.2.f2⟩ : S140) 3).bind fun t49 => (((if i14 > 0 then ((spec_l01Once.g k25 (⟨x0.f0, t49.2.f1, t49.2.f2⟩ : S140) 2).bind fun t222 => (if t222.1 = true then ((spec_l01Below.g k25 (⟨x0.f0, t222.2.f1, t222.2.f2⟩ : S140) i14).bind fun t226 => (some (t226.2.f1, t226.2.f2, wrap64 (256 + t226.1)))) else (some (t222.2.f1, t222.2.f2, wrap64 (97 + t46.1))))) else (some (t49.2.f1, t49.2.f2, wrap64 (97 + t46.1)))) : Option (Int × Int × Int)).bind (fun o219 => (((if i14 > 0 then ((spec_l01Once.g k25 (⟨x0.f0, o219.1, o219.2.1⟩ : S140) 3).bind fun t211 => (if t211.1 = true then ((spec_l01Below.g k25 (⟨x0.f0, t211.2.f1, t211.2.f2⟩ : S140) i14).bind fun t215 => (some (t215.2.f1, t215.2.f2, wrap64 (256 + t215.1)))) else (some (t211.2.f1, t211.2.f2, wrap64 (97 + t49.1))))) else (some (o219.1, o219.2.1, wrap64 (97 + t49.1)))) : Option (Int × Int × Int)).bind (fun o208 => (if (0) + (xs11.length) < 4294967296 then (if ((([] : List S112) ++ xs11).length) < 4294967296 then ((((spec_MergesOk.f k25 ((([] : List S112) ++ xs11) ++ [(⟨o219.2.2, o208.2.2⟩ : S112)])).bind fun t116 => (if t116 = true then (some ((([] : List S112) ++ xs11) ++ [(⟨o219.2.2, o208.2.2⟩ : S112)])) else (some xs11))) : Option (List S112)).bind (fun o112 => (if (o112.length : Int) ≤ i14 then (some (Sum.inl (o112, (⟨x0.f0, o208.1, o208.2.1⟩ : S140)))) else (some (Sum.inr (o112, o208.1, o208.2.1)))))) else none) else none))))))) : Option (((List S112) × S140) ⊕ ((List S112) × Int × Int))).bind (fun o44 => match o44 with | .inl r_ => some (Sum.inl r_) | .inr ⟨xs37, i40, i41⟩ => (rec_ xs37 (wrap64 (i14 + 1)) i40 i41))) else (some (Sum.inr (xs11, i14, t28.2.f1, t28.2.f2)))))
def spec_l07Merges.l0 (x0 : S140) : Nat → (List S112) → Int → Int → Int → Option (((List S112) × S140) ⊕ ((List S112) × Int × Int × Int))
  | 0, _, _, _, _ => none
  | k + 1, xs11, i14, i15, i16 => spec_l07Merges.b0 x0 (spec_l07Merges.l0 x0 k) k xs11 i14 i15 i16
def spec_l07Merges.g (k : Nat) (x0 : S140) : Option ((List S112) × S140) := ((spec_l07Merges.l0 x0 k ([] : List S112) 0 x0.f1 x0.f2).bind (fun o23 => match o23 with | .inl r_ => some r_ | .inr ⟨xs11, i14, i15, i16⟩ => (some (xs11, (⟨x0.f0, i15, i16⟩ : S140)))))
theorem spec_l07Merges.runs (k : Nat) (b0 : Nat) (x0 : S140) (A0_0 : Option Addr) (c0_0 : Nat) (bs_ : List Nat) (r1 : List S112) (y_ : S140) (w0 w : World) (hB_ : Below w0.heap.size w0 w) (hn_ : (b0 :: bs_).Nodup) (hl_ : ∀ k, k ∈ b0 :: bs_ → w0.heap.size ≤ k ∧ k < w.heap.size) (hr0_0 : Foot (fun W => (Kd.int .u8).C W A0_0 x0.f0.length x0.f0) w (fun k_ => k_ ∉ b0 :: bs_)) (hc0_0 : x0.f0.length ≤ c0_0) (hb0 : w.heap[b0]? = some (.cells #[.slice A0_0 x0.f0.length c0_0, .int .i64 x0.f1, .int .i64 x0.f2] 140 (0, 0))) (H : spec_l07Merges.g k x0 = some (r1, y_)) :
    Calls Try.prog 129 #[.pointer (some ⟨b0, 0, none⟩)] w fun e w' => ∃ (A0_ : Option Addr) (c0_ : Nat), e = .returned (.slice A0_ r1.length c0_) ∧ r1.length ≤ c0_ ∧ Foot (fun W => k112.C W A0_ r1.length r1) w' (fun k_ => w0.heap.size ≤ k_ ∧ k_ ∉ b0 :: bs_) ∧ w'.heap[b0]? = some (.cells #[.slice A0_0 x0.f0.length c0_0, .int .i64 y_.f1, .int .i64 y_.f2] 140 (0, 0)) ∧ RestOf w w' b0 ∧ Below w0.heap.size w0 w' := by
  unfold spec_l07Merges.g at H
  have HS : St (fun _ => True) w0 w [boxM b0 #[.slice A0_0 x0.f0.length c0_0, .int .i64 x0.f1, .int .i64 x0.f2] 140, keepM w bs_] [(frameF w b0 bs_), (fun W => (Kd.int .u8).C W A0_0 x0.f0.length x0.f0)] [] := St.startM hB_ hn_ hl_ hb0 (foot_cons hr0_0 foot_nil)
  refine cw_ (n := 58) Try.func129 fun R_ hR_ => ?_
  refine sr_ fun _ hK1 => ?_
  refine as_ ?_
  refine dn_ hK1 ?_
  exact by (
  clear hK1
  refine sr_ fun _ hK2 => ?_
  refine WL.lit0 HS rfl rfl (by decide) rfl Try.underlying34 (sz := 2) (by kernel_rfl) (fun v3 w4 HS => ?_)
  replace HS := HS.deriveN (p := (fun W => Reps (k112.K W) k112.sz ([] : List S112) [])) (fun _ _ => Reps.none _ _)
  refine as_ ?_
  refine dn_ hK2 ?_
  exact by (
  clear hK2
  refine WC.seq fun K5 hK5 => ?_
  refine sr_ fun _ hK6 => ?_
  refine as_ ?_
  refine dn_ hK6 ?_
  clear hK6
  exact by (
  refine WC.block ?_
  obtain ⟨G7, hG8, o9, H, Ho10⟩ := open_G H
  have X17 : ∀ E_ W_, (∃ (xs11 : List S112) (v12 : Value) (I13 : List Value) (i14 : Int) (i15 : Int) (i16 : Int), E_ = [(0, .pointer (some ⟨b0, 0, none⟩)), (3, v12), (4, .int .i64 i14)] ∧ G7 (Sum.inr (xs11, i14, i15, i16)) = some (r1, y_) ∧ St (fun _ => True) w0 W_ [rowM w0.heap.size 112 2 v12 xs11.length I13, boxM b0 #[.slice A0_0 x0.f0.length c0_0, .int .i64 i15, .int .i64 i16] 140, keepM w bs_] [(frameF w b0 bs_), (fun W => (Kd.int .u8).C W A0_0 x0.f0.length x0.f0)] [(fun W => Reps (k112.K W) k112.sz xs11 I13)]) → ∀ a, Fits a 58 E_ → K5 a W_ := by
    rintro E_ w18 ⟨xs11, v12, I13, i14, i15, i16, rfl, H, HS⟩
    rw [hG8] at H
    (try dsimp only at H)
    exact by (
    refine hK5 _ _ ?_
    clear hK5
    refine sr_ fun _ hK19 => ?_
    refine mv_ ?_
    refine as_ ?_
    refine dn_ hK19 ?_
    exact by (
    clear hK19
    refine WC.ret ?_
    obtain ⟨A20, c21, rfl⟩ := row_slice (HS.mu 0 rfl)
    have le22 := row_le (HS.mu 0 rfl)
    replace HS := HS.freezeN 0 (p := (fun W => k112.C W A20 (xs11).length (xs11))) rfl (fun W_ hm_ h_ => row_C (by rfl) hm_ (AllF.get 0 rfl h_))
    dsimp only [List.eraseIdx] at HS
    obtain ⟨rfl, rfl⟩ := Prod.mk.inj (os H)
    exact by (
    have HSf := HS
    exact fin1 Try.f129 rfl rfl hR_ ⟨_, _, rfl, le22, (foot_freshM (HSf.footN 0 rfl)), (HSf.mu 0 rfl), (rest_of (HSf.getO 0 rfl) (HSf.mu 1 rfl)), HSf.b⟩ )))
  clear hK5
  refine WC.loop (fun k_ E_ W_ => ∃ (xs11 : List S112) (v12 : Value) (I13 : List Value) (i14 : Int) (i15 : Int) (i16 : Int), E_ = [(0, .pointer (some ⟨b0, 0, none⟩)), (3, v12), (4, .int .i64 i14)] ∧ (∃ o_, spec_l07Merges.l0 x0 k_ xs11 i14 i15 i16 = some o_ ∧ G7 o_ = some (r1, y_)) ∧ St (fun _ => True) w0 W_ [rowM w0.heap.size 112 2 v12 xs11.length I13, boxM b0 #[.slice A0_0 x0.f0.length c0_0, .int .i64 i15, .int .i64 i16] 140, keepM w bs_] [(frameF w b0 bs_), (fun W => (Kd.int .u8).C W A0_0 x0.f0.length x0.f0)] [(fun W => Reps (k112.K W) k112.sz xs11 I13)]) k ⟨([] : List S112), v3, ([]), 0, x0.f1, x0.f2, rfl, ⟨_, H, Ho10⟩, (St.pick HS (fun W_ h_ => ⟨AllF.get 0 rfl h_, AllF.get 1 rfl h_, trivial⟩) (fun W_ h_ => ⟨AllF.get 0 rfl h_, trivial⟩))⟩ ⟨rfl, rfl, rfl, trivial⟩ ?_
  rintro k_ E_ w24 ⟨xs11, v12, I13, i14, i15, i16, rfl, ⟨o9, H, Ho10⟩, HS⟩
  rcases k_ with _ | k25
  · exact no_ H
  exact by (
  replace H : spec_l07Merges.b0 x0 (spec_l07Merges.l0 x0 k25) k25 xs11 i14 i15 i16 = some o9 := H
  unfold spec_l07Merges.b0 at H
  refine WC.seq fun _ hK26 => ?_
  refine sr_ fun _ hK27 => ?_
  refine mv_ ?_
  refine mv_ ?_
  exact by (
  obtain ⟨t28, ha29, H⟩ := bind_some H
  refine c_ Try.func80 (spec_l01Below.runs k25 b0 (⟨x0.f0, i15, i16⟩ : S140) A0_0 c0_0 9 _ t28.1 t28.2 _ _ HS.b (HS.nodupM 1 rfl) (HS.boundM 1 rfl) (HS.footOM 1 rfl 1 rfl) hc0_0 (HS.mu 1 rfl) ha29) ?_
  clear ha29
  rintro _ w30 ⟨rfl, hbx_, hrest_, hB1_⟩
  replace HS := HS.calledM 1 rfl hB1_ hrest_ hbx_
  dsimp only [List.set] at HS
  exact by (
  clear hB1_ hrest_ hbx_
  refine ⟨_, rfl, ?_⟩
  refine b_ bin_lss ?_
  refine dn_ hK27 ?_
  clear hK27
  rcases eti_ H with ⟨c31, H⟩ | ⟨c31, H⟩
  · refine wn_ (dF c31) ?_
    exact by (
    refine WC.exit ?_
    obtain rfl := os H
    exact WQ.via2 (fun _ _ h_ => h_) X17 ⟨xs11, v12, I13, i14, t28.2.f1, t28.2.f2, rfl, Ho10, (St.pick HS (fun W_ h_ => ⟨AllF.get 0 rfl h_, AllF.get 1 rfl h_, trivial⟩) (fun W_ h_ => ⟨AllF.get 0 rfl h_, trivial⟩))⟩ ⟨rfl, rfl, rfl, trivial⟩ )
  refine wy_ (dT c31) ?_
  refine WC.skip ?_
  refine via_ hK26 ?_
  exact by (
  clear hK26
  refine WC.seq fun K32 hK32 => ?_
  obtain ⟨G33, hG34, o35, H, Ho36⟩ := open_G H
  have X42 : ∀ E_ W_, (∃ (xs37 : List S112) (v38 : Value) (I39 : List Value) (i40 : Int) (i41 : Int), E_ = [(0, .pointer (some ⟨b0, 0, none⟩)), (3, v38), (4, .int .i64 i14)] ∧ G33 (Sum.inr (xs37, i40, i41)) = some o9 ∧ St (fun _ => True) w0 W_ [rowM w0.heap.size 112 2 v38 xs37.length I39, boxM b0 #[.slice A0_0 x0.f0.length c0_0, .int .i64 i40, .int .i64 i41] 140, keepM w bs_] [(frameF w b0 bs_), (fun W => (Kd.int .u8).C W A0_0 x0.f0.length x0.f0)] [(fun W => Reps (k112.K W) k112.sz xs37 I39)]) → ∀ a, Fits a 58 E_ → K32 a W_ := by
    rintro E_ w43 ⟨xs37, v38, I39, i40, i41, rfl, H, HS⟩
    rw [hG34] at H
    exact by (
    (try dsimp only at H)
    refine hK32 _ _ ?_
    clear hK32
    refine rg_ ?_
    refine mv_ ?_
    refine b_ bin_add64 ?_
    exact by (
    refine as_ ?_
    refine WL.done ?_
    exact WQ.round k25 (fun _ _ h_ => h_) (Nat.lt_succ_self _) ⟨xs37, v38, I39, (wrap64 (i14 + 1)), i40, i41, rfl, ⟨_, H, Ho10⟩, (St.pick HS (fun W_ h_ => ⟨AllF.get 0 rfl h_, AllF.get 1 rfl h_, trivial⟩) (fun W_ h_ => ⟨AllF.get 0 rfl h_, trivial⟩))⟩ ⟨rfl, rfl, rfl, trivial⟩ ))
  clear hK32
  refine WC.block ?_
  refine sr_ fun _ hK45 => ?_
  exact by (
  refine mv_ ?_
  obtain ⟨t46, ha47, H⟩ := bind_some H
  refine c_ Try.func80 (spec_l01Below.runs k25 b0 (⟨x0.f0, t28.2.f1, t28.2.f2⟩ : S140) A0_0 c0_0 3 _ t46.1 t46.2 _ _ HS.b (HS.nodupM 1 rfl) (HS.boundM 1 rfl) (HS.footOM 1 rfl 1 rfl) hc0_0 (HS.mu 1 rfl) ha47) ?_
  clear ha47
  rintro _ w48 ⟨rfl, hbx_, hrest_, hB1_⟩
  replace HS := HS.calledM 1 rfl hB1_ hrest_ hbx_
  exact by (
  dsimp only [List.set] at HS
  clear hB1_ hrest_ hbx_
  refine ⟨_, rfl, ?_⟩
  refine b_ bin_add64 ?_
  refine mv_ ?_
  obtain ⟨t49, ha50, H⟩ := bind_some H
  exact by (
  refine c_ Try.func80 (spec_l01Below.runs k25 b0 (⟨x0.f0, t46.2.f1, t46.2.f2⟩ : S140) A0_0 c0_0 3 _ t49.1 t49.2 _ _ HS.b (HS.nodupM 1 rfl) (HS.boundM 1 rfl) (HS.footOM 1 rfl 1 rfl) hc0_0 (HS.mu 1 rfl) ha50) ?_
  clear ha50
  rintro _ w51 ⟨rfl, hbx_, hrest_, hB1_⟩
  replace HS := HS.calledM 1 rfl hB1_ hrest_ hbx_
  dsimp only [List.set] at HS
  clear hB1_ hrest_ hbx_
  exact by (
  refine ⟨_, rfl, ?_⟩
  refine b_ bin_add64 ?_
  refine v_ (Run.build (cells := #[.int .i64 (wrap64 (97 + t46.1)), .int .i64 (wrap64 (97 + t49.1))]) rfl [(0, .int .i64 (wrap64 (97 + t46.1))), (1, .int .i64 (wrap64 (97 + t49.1)))] ⟨⟨rfl, rfl⟩, ⟨⟨rfl, rfl⟩, trivial⟩⟩ (by kernel_rfl)) ?_
  refine WL.alloc HS (v := .agg #[.int .i64 0, .int .i64 0]) (cs := #[.int .i64 0, .int .i64 0]) rfl rfl (by decide) rfl (by kernel_rfl) rfl (fun b52 w53 hb52 HS => ?_)
  refine WL.storeS HS 0 (vs := [.int .i64 (wrap64 (97 + t46.1)), .int .i64 (wrap64 (97 + t49.1))]) rfl rfl rfl rfl rfl rfl (one_cons rfl (one_cons rfl one_nil)) (by kernel_rfl) (Nat.le_of_ble_eq_true rfl) (cs' := #[.int .i64 (wrap64 (97 + t46.1)), .int .i64 (wrap64 (97 + t49.1))]) (by kernel_rfl) (fun w54 HS => ?_)
  dsimp only [List.set] at HS
  exact by (
  refine dn_ hK45 ?_
  clear hK45
  refine WC.seq fun K55 hK55 => ?_
  obtain ⟨G56, hG57, o58, H, Ho59⟩ := open_G H
  have X63 : ∀ E_ W_, (∃ (i60 : Int) (i61 : Int) (i62 : Int), E_ = [(0, .pointer (some ⟨b0, 0, none⟩)), (3, v12), (4, .int .i64 i14), (5, .pointer (some ⟨b52, 0, none⟩))] ∧ G56 (i60, i61, i62) = some o35 ∧ St (fun _ => True) w0 W_ [boxM b52 #[.int .i64 i62, .int .i64 (wrap64 (97 + t49.1))] 112, rowM w0.heap.size 112 2 v12 xs11.length I13, boxM b0 #[.slice A0_0 x0.f0.length c0_0, .int .i64 i60, .int .i64 i61] 140, keepM w bs_] [(frameF w b0 bs_), (fun W => (Kd.int .u8).C W A0_0 x0.f0.length x0.f0)] [(fun W => Reps (k112.K W) k112.sz xs11 I13)]) → ∀ a, Fits a 58 E_ → K55 a W_ := by
    rintro E_ w64 ⟨i60, i61, i62, rfl, H, HS⟩
    exact by (
    rw [hG57] at H
    (try dsimp only at H)
    refine hK55 _ _ ?_
    clear hK55
    refine WC.seq fun K65 hK65 => ?_
    obtain ⟨G66, hG67, o68, H, Ho69⟩ := open_G H
    exact by (
    have X73 : ∀ E_ W_, (∃ (i70 : Int) (i71 : Int) (i72 : Int), E_ = [(0, .pointer (some ⟨b0, 0, none⟩)), (3, v12), (4, .int .i64 i14), (5, .pointer (some ⟨b52, 0, none⟩))] ∧ G66 (i70, i71, i72) = some o35 ∧ St (fun _ => True) w0 W_ [boxM b52 #[.int .i64 i62, .int .i64 i72] 112, rowM w0.heap.size 112 2 v12 xs11.length I13, boxM b0 #[.slice A0_0 x0.f0.length c0_0, .int .i64 i70, .int .i64 i71] 140, keepM w bs_] [(frameF w b0 bs_), (fun W => (Kd.int .u8).C W A0_0 x0.f0.length x0.f0)] [(fun W => Reps (k112.K W) k112.sz xs11 I13)]) → ∀ a, Fits a 58 E_ → K65 a W_ := by
      rintro E_ w74 ⟨i70, i71, i72, rfl, H, HS⟩
      rw [hG67] at H
      (try dsimp only at H)
      refine hK65 _ _ ?_
      clear hK65
      exact by (
      refine WC.seq fun _ hK75 => ?_
      refine WC.drawW HS [boxM b52 #[.int .i64 i62, .int .i64 i72] 112, boxM b0 #[.slice A0_0 x0.f0.length c0_0, .int .i64 i70, .int .i64 i71] 140] (fun _ HS => ⟨(HS.mu 0 rfl), (HS.mu 2 rfl), trivial⟩) [] rfl rfl (fun w76 HS => ?_)
      refine dm_ 1 ?_
      refine dt_ 3 ⟨HS.nowO, HS.nowN, ⟨(HS.mu 0 rfl), (HS.mu 2 rfl), trivial⟩⟩ (fun w_ hw_ => Run.loadS (cs := [.int .i64 i62, .int .i64 i72]) rfl rfl Try.underlying112 rfl (by kernel_rfl) (box_part hw_.2.2.1 part_all)) ?_
      refine two__ 0 4 ?_ ?_
      · have HT_ := True.intro
        exact by (
        refine WDo.lit0 0 (w_none rfl) HS rfl Try.underlying34 (sz := 2) (by kernel_rfl) (fun v77 w78 HS => ?_)
        replace HS := HS.deriveN (p := (fun W => Reps (k112.K W) k112.sz ([] : List S112) [])) (fun _ _ => Reps.none _ _)
        refine ⟨⟨HS.nowO, HS.nowN.2, ⟨(HS.mu 1 rfl), (HS.mu 3 rfl), trivial⟩⟩, ?_⟩
        refine two__ 2 4 ?_ ?_
        · have HT_ := True.intro
          obtain ⟨q79, H⟩ := if_some H
          exact by (
          obtain ⟨A85, c86, rfl⟩ := row_slice (HS.mu 2 rfl)
          obtain ⟨hl81, h82, hc84⟩ := row_all (dd := k112) (HS.mu 2 rfl) (HS.getN 1 rfl) (by decide)
          refine WDo.appendL 2 (w_none rfl) HS 0 rfl rfl (.agg #[.int .i64 0, .int .i64 0]) 16 Try.underlying34 (by kernel_rfl) rfl (by decide) (by decide) rfl rfl I13 hl81 hc84 h82 (by omega) ((([] : List S112) ++ xs11).length) (by simp) (fun v87 w88 I89 hI90 HS => ?_)
          dsimp only [List.set] at HS
          replace HS := HS.deriveN (p := (fun W => Reps (k112.K W) k112.sz (([] : List S112) ++ xs11) I89)) (fun W_ hN_ => reps_more hI90 (AllF.get 0 rfl hN_) (AllF.get 1 rfl hN_))
          refine ⟨⟨HS.nowO, HS.nowN.2.2, ⟨(HS.mu 1 rfl), (HS.mu 3 rfl), trivial⟩⟩, ?_⟩
          exact by (
          have HS1 := HS.below (below_alloc (Below.refl _ _) (.cells #[.int .i64 i62, .int .i64 i72] 112))
          refine dv_ 4 (w_none rfl) (Run.lit1 (z := (.agg #[.int .i64 0, .int .i64 0])) (vs := [.int .i64 i62, .int .i64 i72]) rfl rfl rfl Try.underlying34 (by kernel_rfl) (Nat.le_of_ble_eq_true rfl) (Nat.le_of_ble_eq_true rfl)) ⟨HS1.nowO, HS1.nowN.2.2, ⟨(HS1.mu 1 rfl), (HS1.mu 3 rfl), trivial⟩⟩ ?_
          obtain ⟨q91, H⟩ := if_some H
          refine WD.append 5 (w_none rfl) HS1 0 rfl rfl (.agg #[.int .i64 0, .int .i64 0]) 16 Try.underlying34 (by kernel_rfl) rfl (by decide) (by decide) rfl rfl [.int .i64 i62, .int .i64 i72] rfl (lit_news _ _ _) (one_cons rfl (one_cons rfl one_nil)) (by omega) (((([] : List S112) ++ xs11) ++ [(⟨i62, i72⟩ : S112)]).length) (by simp) (fun v92 w93 I94 hI95 HS => ?_)
          dsimp only [List.set] at HS
          replace HS := HS.deriveN (p := (fun W => Reps (k112.K W) k112.sz ((([] : List S112) ++ xs11) ++ [(⟨i62, i72⟩ : S112)]) I94)) (fun W_ hN_ => reps_snoc hI95 (AllF.get 0 rfl hN_) (k112_mk _ (⟨i62, i72⟩ : S112)))
          exact by (
          clear HS1
          refine ⟨⟨HS.nowO, HS.nowN.2.2.2, ⟨(HS.mu 1 rfl), (HS.mu 3 rfl), trivial⟩⟩, ?_⟩
          refine dp_ 6 (fun _ => Run.assign rfl rfl) ?_
          refine dd_ ?_
          refine via_ hK75 ?_
          clear hK75
          exact by (
          refine WC.seq fun K96 hK96 => ?_
          obtain ⟨G97, hG98, o99, H, Ho100⟩ := open_G H
          have X104 : ∀ E_ W_, (∃ (xs101 : List S112) (v102 : Value) (I103 : List Value), E_ = [(0, .pointer (some ⟨b0, 0, none⟩)), (3, v102), (4, .int .i64 i14)] ∧ G97 xs101 = some o35 ∧ St (fun _ => True) w0 W_ [boxM b52 #[.int .i64 i62, .int .i64 i72] 112, rowM w0.heap.size 112 2 v102 xs101.length I103, boxM b0 #[.slice A0_0 x0.f0.length c0_0, .int .i64 i70, .int .i64 i71] 140, keepM w bs_] [(frameF w b0 bs_), (fun W => (Kd.int .u8).C W A0_0 x0.f0.length x0.f0)] [(fun W => Reps (k112.K W) k112.sz xs101 I103)]) → ∀ a, Fits a 58 E_ → K96 a W_ := by
            rintro E_ w105 ⟨xs101, v102, I103, rfl, H, HS⟩
            rw [hG98] at H
            (try dsimp only at H)
            exact by (
            refine hK96 _ _ ?_
            clear hK96
            refine sr_ fun _ hK106 => ?_
            refine mv_ ?_
            obtain ⟨A107, c108, rfl⟩ := row_slice (HS.mu 1 rfl)
            refine ln_ Try.underlying34 ?_
            exact by (
            refine mv_ ?_
            refine b_ bin_leq ?_
            refine dn_ hK106 ?_
            clear hK106
            rcases eti_ H with ⟨c109, H⟩ | ⟨c109, H⟩
            · refine wn_ (dF c109) ?_
              exact by (
              refine WC.skip ?_
              obtain rfl := os H
              exact WQ.via2 (fun _ _ h_ => h_) X42 ⟨xs101, (.slice A107 xs101.length c108), I103, i70, i71, rfl, Ho36, (St.pick (St.forget HS 0 rfl) (fun W_ h_ => ⟨AllF.get 0 rfl h_, AllF.get 1 rfl h_, trivial⟩) (fun W_ h_ => ⟨AllF.get 0 rfl h_, trivial⟩))⟩ ⟨rfl, rfl, rfl, trivial⟩ )
            refine wy_ (dT c109) ?_
            refine sr_ fun _ hK110 => ?_
            refine mv_ ?_
            exact by (
            refine as_ ?_
            refine dn_ hK110 ?_
            clear hK110
            refine WC.ret ?_
            have le111 := row_le (HS.mu 1 rfl)
            replace HS := HS.freezeN 1 (p := (fun W => k112.C W A107 (xs101).length (xs101))) rfl (fun W_ hm_ h_ => row_C (by rfl) hm_ (AllF.get 0 rfl h_))
            exact by (
            dsimp only [List.eraseIdx] at HS
            obtain rfl := os H
            rw [hG34] at Ho36
            replace H : some _ = some _ := Ho36
            obtain rfl := os H
            rw [hG8] at Ho10
            exact by (
            replace H : some _ = some _ := Ho10
            obtain ⟨rfl, rfl⟩ := Prod.mk.inj (os H)
            have HSf := (St.forget HS 0 rfl)
            exact fin1 Try.f129 rfl rfl hR_ ⟨_, _, rfl, le111, (foot_freshM (HSf.footN 0 rfl)), (HSf.mu 0 rfl), (rest_of (HSf.getO 0 rfl) (HSf.mu 1 rfl)), HSf.b⟩ )))))
          clear hK96
          refine sr_ fun _ hK113 => ?_
          exact by (
          refine mv_ ?_
          obtain ⟨A114, c115, rfl⟩ := row_slice (HS.mu 0 rfl)
          obtain ⟨t116, ha117, H⟩ := bind_some H
          refine cs_ HS Try.func66 (spec_MergesOk.calls k25 A114 c115 ((([] : List S112) ++ xs11) ++ [(⟨i62, i72⟩ : S112)]) t116 _ (row_C rfl (HS.mu 0 rfl) (HS.getN 0 rfl)) (row_le (HS.mu 0 rfl)) ha117) (fun w118 HS => ?_)
          clear ha117
          refine dn_ hK113 ?_
          exact by (
          clear hK113
          rcases eti_ H with ⟨c119, H⟩ | ⟨c119, H⟩
          · refine wn_ (bF c119) ?_
            refine WC.skip ?_
            obtain rfl := os H
            exact WQ.via2 (fun _ _ h_ => h_) X104 ⟨xs11, (.slice A85 xs11.length c86), I13, rfl, Ho100, (St.pick (St.forget HS 0 rfl) (fun W_ h_ => ⟨AllF.get 0 rfl h_, AllF.get 1 rfl h_, trivial⟩) (fun W_ h_ => ⟨AllF.get 3 rfl h_, trivial⟩))⟩ ⟨rfl, rfl, rfl, trivial⟩
          exact by (
          refine wy_ c119 ?_
          refine rg_ ?_
          refine mv_ ?_
          refine as_ ?_
          refine WL.done ?_
          obtain rfl := os H
          exact WQ.via2 (fun _ _ h_ => h_) X104 ⟨((([] : List S112) ++ xs11) ++ [(⟨i62, i72⟩ : S112)]), (.slice A114 (((([] : List S112) ++ xs11) ++ [(⟨i62, i72⟩ : S112)]).length) c115), I94, rfl, Ho100, (St.pick (St.front (St.front (St.front (St.front (St.forget HS 2 rfl) 3 rfl) 3 rfl) 2 rfl) 3 rfl) (fun W_ h_ => ⟨AllF.get 0 rfl h_, AllF.get 1 rfl h_, trivial⟩) (fun W_ h_ => ⟨AllF.get 0 rfl h_, trivial⟩))⟩ ⟨rfl, rfl, rfl, trivial⟩ )))))))
        · have HT_ := True.intro
          exact by (
          refine WDo.lit1b 4 (w_none rfl) HS (z := (.agg #[.int .i64 0, .int .i64 0])) (vs := [.int .i64 i62, .int .i64 i72]) rfl rfl rfl Try.underlying34 (by kernel_rfl) (Nat.le_of_ble_eq_true rfl) (Nat.le_of_ble_eq_true rfl) (fun b120 w121 hb120 HS => ?_)
          refine ⟨⟨HS.nowO, HS.nowN.2, ⟨(HS.mu 2 rfl), (HS.mu 4 rfl), trivial⟩⟩, ?_⟩
          obtain ⟨q122, H⟩ := if_some H
          obtain ⟨A128, c129, rfl⟩ := row_slice (HS.mu 3 rfl)
          obtain ⟨hl124, h125, hc127⟩ := row_all (dd := k112) (HS.mu 3 rfl) (HS.getN 1 rfl) (by decide)
          refine WD.appendL 2 (w_none rfl) HS 1 rfl rfl (.agg #[.int .i64 0, .int .i64 0]) 16 Try.underlying34 (by kernel_rfl) rfl (by decide) (by decide) rfl rfl I13 hl124 hc127 h125 (by omega) ((([] : List S112) ++ xs11).length) (by simp) (fun v130 w131 I132 hI133 HS => ?_)
          exact by (
          dsimp only [List.set] at HS
          replace HS := HS.deriveN (p := (fun W => Reps (k112.K W) k112.sz (([] : List S112) ++ xs11) I132)) (fun W_ hN_ => reps_more hI133 (AllF.get 0 rfl hN_) (AllF.get 1 rfl hN_))
          refine ⟨⟨HS.nowO, HS.nowN.2.2, ⟨(HS.mu 2 rfl), (HS.mu 4 rfl), trivial⟩⟩, ?_⟩
          obtain ⟨q134, H⟩ := if_some H
          refine WD.append 5 (w_none rfl) HS 1 rfl rfl (.agg #[.int .i64 0, .int .i64 0]) 16 Try.underlying34 (by kernel_rfl) rfl (by decide) (by decide) rfl rfl [.int .i64 i62, .int .i64 i72] rfl (box_part (HS.mu 0 rfl) part_all) (one_cons rfl (one_cons rfl one_nil)) (by omega) (((([] : List S112) ++ xs11) ++ [(⟨i62, i72⟩ : S112)]).length) (by simp) (fun v135 w136 I137 hI138 HS => ?_)
          dsimp only [List.set] at HS
          exact by (
          replace HS := HS.deriveN (p := (fun W => Reps (k112.K W) k112.sz ((([] : List S112) ++ xs11) ++ [(⟨i62, i72⟩ : S112)]) I137)) (fun W_ hN_ => reps_snoc hI138 (AllF.get 0 rfl hN_) (k112_mk _ (⟨i62, i72⟩ : S112)))
          refine ⟨⟨HS.nowO, HS.nowN.2.2.2, ⟨(HS.mu 2 rfl), (HS.mu 4 rfl), trivial⟩⟩, ?_⟩
          refine dp_ 6 (fun _ => Run.assign rfl rfl) ?_
          refine dd_ ?_
          refine via_ hK75 ?_
          clear hK75
          exact by (
          refine WC.seq fun K139 hK139 => ?_
          obtain ⟨G140, hG141, o142, H, Ho143⟩ := open_G H
          have X147 : ∀ E_ W_, (∃ (xs144 : List S112) (v145 : Value) (I146 : List Value), E_ = [(0, .pointer (some ⟨b0, 0, none⟩)), (3, v145), (4, .int .i64 i14)] ∧ G140 xs144 = some o35 ∧ St (fun _ => True) w0 W_ [boxM b120 #[.int .i64 i62, .int .i64 i72] 112, boxM b52 #[.int .i64 i62, .int .i64 i72] 112, rowM w0.heap.size 112 2 v145 xs144.length I146, boxM b0 #[.slice A0_0 x0.f0.length c0_0, .int .i64 i70, .int .i64 i71] 140, keepM w bs_] [(frameF w b0 bs_), (fun W => (Kd.int .u8).C W A0_0 x0.f0.length x0.f0)] [(fun W => Reps (k112.K W) k112.sz xs144 I146)]) → ∀ a, Fits a 58 E_ → K139 a W_ := by
            rintro E_ w148 ⟨xs144, v145, I146, rfl, H, HS⟩
            rw [hG141] at H
            (try dsimp only at H)
            exact by (
            refine hK139 _ _ ?_
            clear hK139
            refine sr_ fun _ hK149 => ?_
            refine mv_ ?_
            obtain ⟨A150, c151, rfl⟩ := row_slice (HS.mu 2 rfl)
            refine ln_ Try.underlying34 ?_
            exact by (
            refine mv_ ?_
            refine b_ bin_leq ?_
            refine dn_ hK149 ?_
            clear hK149
            rcases eti_ H with ⟨c152, H⟩ | ⟨c152, H⟩
            · refine wn_ (dF c152) ?_
              exact by (
              refine WC.skip ?_
              obtain rfl := os H
              exact WQ.via2 (fun _ _ h_ => h_) X42 ⟨xs144, (.slice A150 xs144.length c151), I146, i70, i71, rfl, Ho36, (St.pick (St.forget (St.forget HS 1 rfl) 0 rfl) (fun W_ h_ => ⟨AllF.get 0 rfl h_, AllF.get 1 rfl h_, trivial⟩) (fun W_ h_ => ⟨AllF.get 0 rfl h_, trivial⟩))⟩ ⟨rfl, rfl, rfl, trivial⟩ )
            refine wy_ (dT c152) ?_
            refine sr_ fun _ hK153 => ?_
            refine mv_ ?_
            exact by (
            refine as_ ?_
            refine dn_ hK153 ?_
            clear hK153
            refine WC.ret ?_
            have le154 := row_le (HS.mu 2 rfl)
            replace HS := HS.freezeN 2 (p := (fun W => k112.C W A150 (xs144).length (xs144))) rfl (fun W_ hm_ h_ => row_C (by rfl) hm_ (AllF.get 0 rfl h_))
            exact by (
            dsimp only [List.eraseIdx] at HS
            obtain rfl := os H
            rw [hG34] at Ho36
            replace H : some _ = some _ := Ho36
            obtain rfl := os H
            rw [hG8] at Ho10
            exact by (
            replace H : some _ = some _ := Ho10
            obtain ⟨rfl, rfl⟩ := Prod.mk.inj (os H)
            have HSf := (St.forget (St.forget HS 1 rfl) 0 rfl)
            exact fin1 Try.f129 rfl rfl hR_ ⟨_, _, rfl, le154, (foot_freshM (HSf.footN 0 rfl)), (HSf.mu 0 rfl), (rest_of (HSf.getO 0 rfl) (HSf.mu 1 rfl)), HSf.b⟩ )))))
          clear hK139
          refine sr_ fun _ hK156 => ?_
          exact by (
          refine mv_ ?_
          obtain ⟨A157, c158, rfl⟩ := row_slice (HS.mu 1 rfl)
          obtain ⟨t159, ha160, H⟩ := bind_some H
          refine cs_ HS Try.func66 (spec_MergesOk.calls k25 A157 c158 ((([] : List S112) ++ xs11) ++ [(⟨i62, i72⟩ : S112)]) t159 _ (row_C rfl (HS.mu 1 rfl) (HS.getN 0 rfl)) (row_le (HS.mu 1 rfl)) ha160) (fun w161 HS => ?_)
          clear ha160
          refine dn_ hK156 ?_
          exact by (
          clear hK156
          rcases eti_ H with ⟨c162, H⟩ | ⟨c162, H⟩
          · refine wn_ (bF c162) ?_
            refine WC.skip ?_
            obtain rfl := os H
            exact WQ.via2 (fun _ _ h_ => h_) X147 ⟨xs11, (.slice A128 xs11.length c129), I13, rfl, Ho143, (St.pick (St.forget HS 1 rfl) (fun W_ h_ => ⟨AllF.get 0 rfl h_, AllF.get 1 rfl h_, trivial⟩) (fun W_ h_ => ⟨AllF.get 3 rfl h_, trivial⟩))⟩ ⟨rfl, rfl, rfl, trivial⟩
          exact by (
          refine wy_ c162 ?_
          refine rg_ ?_
          refine mv_ ?_
          refine as_ ?_
          refine WL.done ?_
          obtain rfl := os H
          exact WQ.via2 (fun _ _ h_ => h_) X147 ⟨((([] : List S112) ++ xs11) ++ [(⟨i62, i72⟩ : S112)]), (.slice A157 (((([] : List S112) ++ xs11) ++ [(⟨i62, i72⟩ : S112)]).length) c158), I137, rfl, Ho143, (St.pick (St.front (St.front (St.front (St.front (St.front (St.forget HS 3 rfl) 4 rfl) 4 rfl) 3 rfl) 4 rfl) 4 rfl) (fun W_ h_ => ⟨AllF.get 0 rfl h_, AllF.get 1 rfl h_, trivial⟩) (fun W_ h_ => ⟨AllF.get 0 rfl h_, trivial⟩))⟩ ⟨rfl, rfl, rfl, trivial⟩ ))))))))
      · have HT_ := True.intro
        exact by (
        refine WDo.lit1b 4 (w_none rfl) HS (z := (.agg #[.int .i64 0, .int .i64 0])) (vs := [.int .i64 i62, .int .i64 i72]) rfl rfl rfl Try.underlying34 (by kernel_rfl) (Nat.le_of_ble_eq_true rfl) (Nat.le_of_ble_eq_true rfl) (fun b163 w164 hb163 HS => ?_)
        refine ⟨⟨HS.nowO, HS.nowN, ⟨(HS.mu 1 rfl), (HS.mu 3 rfl), trivial⟩⟩, ?_⟩
        refine WD.lit0 0 (w_none rfl) HS rfl Try.underlying34 (sz := 2) (by kernel_rfl) (fun v165 w166 HS => ?_)
        replace HS := HS.deriveN (p := (fun W => Reps (k112.K W) k112.sz ([] : List S112) [])) (fun _ _ => Reps.none _ _)
        refine ⟨⟨HS.nowO, HS.nowN.2, ⟨(HS.mu 2 rfl), (HS.mu 4 rfl), trivial⟩⟩, ?_⟩
        obtain ⟨q167, H⟩ := if_some H
        exact by (
        obtain ⟨A173, c174, rfl⟩ := row_slice (HS.mu 3 rfl)
        obtain ⟨hl169, h170, hc172⟩ := row_all (dd := k112) (HS.mu 3 rfl) (HS.getN 1 rfl) (by decide)
        refine WD.appendL 2 (w_none rfl) HS 0 rfl rfl (.agg #[.int .i64 0, .int .i64 0]) 16 Try.underlying34 (by kernel_rfl) rfl (by decide) (by decide) rfl rfl I13 hl169 hc172 h170 (by omega) ((([] : List S112) ++ xs11).length) (by simp) (fun v175 w176 I177 hI178 HS => ?_)
        dsimp only [List.set] at HS
        replace HS := HS.deriveN (p := (fun W => Reps (k112.K W) k112.sz (([] : List S112) ++ xs11) I177)) (fun W_ hN_ => reps_more hI178 (AllF.get 0 rfl hN_) (AllF.get 1 rfl hN_))
        refine ⟨⟨HS.nowO, HS.nowN.2.2, ⟨(HS.mu 2 rfl), (HS.mu 4 rfl), trivial⟩⟩, ?_⟩
        exact by (
        obtain ⟨q179, H⟩ := if_some H
        refine WD.append 5 (w_none rfl) HS 0 rfl rfl (.agg #[.int .i64 0, .int .i64 0]) 16 Try.underlying34 (by kernel_rfl) rfl (by decide) (by decide) rfl rfl [.int .i64 i62, .int .i64 i72] rfl (box_part (HS.mu 1 rfl) part_all) (one_cons rfl (one_cons rfl one_nil)) (by omega) (((([] : List S112) ++ xs11) ++ [(⟨i62, i72⟩ : S112)]).length) (by simp) (fun v180 w181 I182 hI183 HS => ?_)
        dsimp only [List.set] at HS
        replace HS := HS.deriveN (p := (fun W => Reps (k112.K W) k112.sz ((([] : List S112) ++ xs11) ++ [(⟨i62, i72⟩ : S112)]) I182)) (fun W_ hN_ => reps_snoc hI183 (AllF.get 0 rfl hN_) (k112_mk _ (⟨i62, i72⟩ : S112)))
        refine ⟨⟨HS.nowO, HS.nowN.2.2.2, ⟨(HS.mu 2 rfl), (HS.mu 4 rfl), trivial⟩⟩, ?_⟩
        refine dp_ 6 (fun _ => Run.assign rfl rfl) ?_
        exact by (
        refine dd_ ?_
        refine via_ hK75 ?_
        clear hK75
        refine WC.seq fun K184 hK184 => ?_
        obtain ⟨G185, hG186, o187, H, Ho188⟩ := open_G H
        have X192 : ∀ E_ W_, (∃ (xs189 : List S112) (v190 : Value) (I191 : List Value), E_ = [(0, .pointer (some ⟨b0, 0, none⟩)), (3, v190), (4, .int .i64 i14)] ∧ G185 xs189 = some o35 ∧ St (fun _ => True) w0 W_ [boxM b163 #[.int .i64 i62, .int .i64 i72] 112, boxM b52 #[.int .i64 i62, .int .i64 i72] 112, rowM w0.heap.size 112 2 v190 xs189.length I191, boxM b0 #[.slice A0_0 x0.f0.length c0_0, .int .i64 i70, .int .i64 i71] 140, keepM w bs_] [(frameF w b0 bs_), (fun W => (Kd.int .u8).C W A0_0 x0.f0.length x0.f0)] [(fun W => Reps (k112.K W) k112.sz xs189 I191)]) → ∀ a, Fits a 58 E_ → K184 a W_ := by
          exact by (
          rintro E_ w193 ⟨xs189, v190, I191, rfl, H, HS⟩
          rw [hG186] at H
          (try dsimp only at H)
          refine hK184 _ _ ?_
          clear hK184
          refine sr_ fun _ hK194 => ?_
          exact by (
          refine mv_ ?_
          obtain ⟨A195, c196, rfl⟩ := row_slice (HS.mu 2 rfl)
          refine ln_ Try.underlying34 ?_
          refine mv_ ?_
          refine b_ bin_leq ?_
          refine dn_ hK194 ?_
          exact by (
          clear hK194
          rcases eti_ H with ⟨c197, H⟩ | ⟨c197, H⟩
          · refine wn_ (dF c197) ?_
            refine WC.skip ?_
            obtain rfl := os H
            exact WQ.via2 (fun _ _ h_ => h_) X42 ⟨xs189, (.slice A195 xs189.length c196), I191, i70, i71, rfl, Ho36, (St.pick (St.forget (St.forget HS 1 rfl) 0 rfl) (fun W_ h_ => ⟨AllF.get 0 rfl h_, AllF.get 1 rfl h_, trivial⟩) (fun W_ h_ => ⟨AllF.get 0 rfl h_, trivial⟩))⟩ ⟨rfl, rfl, rfl, trivial⟩
          exact by (
          refine wy_ (dT c197) ?_
          refine sr_ fun _ hK198 => ?_
          refine mv_ ?_
          refine as_ ?_
          refine dn_ hK198 ?_
          clear hK198
          exact by (
          refine WC.ret ?_
          have le199 := row_le (HS.mu 2 rfl)
          replace HS := HS.freezeN 2 (p := (fun W => k112.C W A195 (xs189).length (xs189))) rfl (fun W_ hm_ h_ => row_C (by rfl) hm_ (AllF.get 0 rfl h_))
          dsimp only [List.eraseIdx] at HS
          obtain rfl := os H
          rw [hG34] at Ho36
          exact by (
          replace H : some _ = some _ := Ho36
          obtain rfl := os H
          rw [hG8] at Ho10
          replace H : some _ = some _ := Ho10
          obtain ⟨rfl, rfl⟩ := Prod.mk.inj (os H)
          have HSf := (St.forget (St.forget HS 1 rfl) 0 rfl)
          exact fin1 Try.f129 rfl rfl hR_ ⟨_, _, rfl, le199, (foot_freshM (HSf.footN 0 rfl)), (HSf.mu 0 rfl), (rest_of (HSf.getO 0 rfl) (HSf.mu 1 rfl)), HSf.b⟩ ))))))
        exact by (
        clear hK184
        refine sr_ fun _ hK201 => ?_
        refine mv_ ?_
        obtain ⟨A202, c203, rfl⟩ := row_slice (HS.mu 0 rfl)
        obtain ⟨t204, ha205, H⟩ := bind_some H
        refine cs_ HS Try.func66 (spec_MergesOk.calls k25 A202 c203 ((([] : List S112) ++ xs11) ++ [(⟨i62, i72⟩ : S112)]) t204 _ (row_C rfl (HS.mu 0 rfl) (HS.getN 0 rfl)) (row_le (HS.mu 0 rfl)) ha205) (fun w206 HS => ?_)
        exact by (
        clear ha205
        refine dn_ hK201 ?_
        clear hK201
        rcases eti_ H with ⟨c207, H⟩ | ⟨c207, H⟩
        · refine wn_ (bF c207) ?_
          refine WC.skip ?_
          obtain rfl := os H
          exact WQ.via2 (fun _ _ h_ => h_) X192 ⟨xs11, (.slice A173 xs11.length c174), I13, rfl, Ho188, (St.pick (St.forget HS 0 rfl) (fun W_ h_ => ⟨AllF.get 0 rfl h_, AllF.get 1 rfl h_, trivial⟩) (fun W_ h_ => ⟨AllF.get 3 rfl h_, trivial⟩))⟩ ⟨rfl, rfl, rfl, trivial⟩
        exact by (
        refine wy_ c207 ?_
        refine rg_ ?_
        refine mv_ ?_
        refine as_ ?_
        refine WL.done ?_
        obtain rfl := os H
        exact WQ.via2 (fun _ _ h_ => h_) X192 ⟨((([] : List S112) ++ xs11) ++ [(⟨i62, i72⟩ : S112)]), (.slice A202 (((([] : List S112) ++ xs11) ++ [(⟨i62, i72⟩ : S112)]).length) c203), I182, rfl, Ho188, (St.pick (St.front (St.front (St.front (St.front (St.front (St.forget HS 3 rfl) 4 rfl) 4 rfl) 2 rfl) 4 rfl) 4 rfl) (fun W_ h_ => ⟨AllF.get 0 rfl h_, AllF.get 1 rfl h_, trivial⟩) (fun W_ h_ => ⟨AllF.get 0 rfl h_, trivial⟩))⟩ ⟨rfl, rfl, rfl, trivial⟩ ))))))))
    exact by (
    clear hK65
    refine sr_ fun _ hK209 => ?_
    refine mv_ ?_
    refine b_ bin_gtr ?_
    refine mv_ ?_
    rcases eti_ H with ⟨c210, H⟩ | ⟨c210, H⟩
    · refine off_ (c' := false) (dF c210) ?_
      exact by (
      refine off_ (c' := false) (dF c210) ?_
      refine v_ (Run.pickF rfl rfl (dF c210) rfl) ?_
      refine dn_ hK209 ?_
      clear hK209
      refine wn_ rfl ?_
      refine WC.skip ?_
      obtain rfl := os H
      exact WQ.via2 (fun _ _ h_ => h_) X73 ⟨i60, i61, (wrap64 (97 + t49.1)), rfl, Ho69, (St.pick HS (fun W_ h_ => ⟨AllF.get 0 rfl h_, AllF.get 1 rfl h_, trivial⟩) (fun W_ h_ => ⟨AllF.get 0 rfl h_, trivial⟩))⟩ ⟨rfl, rfl, rfl, rfl, trivial⟩ )
    exact by (
    refine on_ (dT c210) ?_
    refine mv_ ?_
    refine on_ (dT c210) ?_
    obtain ⟨t211, ha212, H⟩ := bind_some H
    refine c_ Try.func134 (spec_l01Once.runs k25 b0 (⟨x0.f0, i60, i61⟩ : S140) A0_0 c0_0 3 _ t211.1 t211.2 _ _ HS.b (HS.nodupM 2 rfl) (HS.boundM 2 rfl) (HS.footOM 2 rfl 1 rfl) hc0_0 (HS.mu 2 rfl) ha212) ?_
    clear ha212
    exact by (
    rintro _ w213 ⟨rfl, hbx_, hrest_, hB1_⟩
    replace HS := HS.calledM 2 rfl hB1_ hrest_ hbx_
    dsimp only [List.set] at HS
    clear hB1_ hrest_ hbx_
    refine ⟨_, rfl, ?_⟩
    refine v_ (Run.pickT rfl rfl (dT c210) rfl) ?_
    exact by (
    refine dn_ hK209 ?_
    clear hK209
    rcases eti_ H with ⟨c214, H⟩ | ⟨c214, H⟩
    · refine wn_ (bF c214) ?_
      refine WC.skip ?_
      obtain rfl := os H
      exact WQ.via2 (fun _ _ h_ => h_) X73 ⟨t211.2.f1, t211.2.f2, (wrap64 (97 + t49.1)), rfl, Ho69, (St.pick HS (fun W_ h_ => ⟨AllF.get 0 rfl h_, AllF.get 1 rfl h_, trivial⟩) (fun W_ h_ => ⟨AllF.get 0 rfl h_, trivial⟩))⟩ ⟨rfl, rfl, rfl, rfl, trivial⟩
    exact by (
    refine wy_ c214 ?_
    refine rg_ ?_
    refine mv_ ?_
    refine mv_ ?_
    obtain ⟨t215, ha216, H⟩ := bind_some H
    refine c_ Try.func80 (spec_l01Below.runs k25 b0 (⟨x0.f0, t211.2.f1, t211.2.f2⟩ : S140) A0_0 c0_0 i14 _ t215.1 t215.2 _ _ HS.b (HS.nodupM 2 rfl) (HS.boundM 2 rfl) (HS.footOM 2 rfl 1 rfl) hc0_0 (HS.mu 2 rfl) ha216) ?_
    exact by (
    clear ha216
    rintro _ w217 ⟨rfl, hbx_, hrest_, hB1_⟩
    replace HS := HS.calledM 2 rfl hB1_ hrest_ hbx_
    dsimp only [List.set] at HS
    clear hB1_ hrest_ hbx_
    refine ⟨_, rfl, ?_⟩
    exact by (
    refine b_ bin_add64 ?_
    refine v_ (fa_ Try.underlying112) ?_
    refine WL.store HS 0 rfl rfl rfl rfl rfl rfl rfl (by kernel_rfl) (Nat.le_of_ble_eq_true rfl) (cs' := #[.int .i64 i62, .int .i64 (wrap64 (256 + t215.1))]) (by kernel_rfl) (fun w218 HS => ?_)
    dsimp only [List.set] at HS
    refine WL.done ?_
    obtain rfl := os H
    exact WQ.via2 (fun _ _ h_ => h_) X73 ⟨t215.2.f1, t215.2.f2, (wrap64 (256 + t215.1)), rfl, Ho69, (St.pick HS (fun W_ h_ => ⟨AllF.get 0 rfl h_, AllF.get 1 rfl h_, trivial⟩) (fun W_ h_ => ⟨AllF.get 0 rfl h_, trivial⟩))⟩ ⟨rfl, rfl, rfl, rfl, trivial⟩ )))))))))
  exact by (
  clear hK55
  refine sr_ fun _ hK220 => ?_
  refine mv_ ?_
  refine b_ bin_gtr ?_
  refine mv_ ?_
  rcases eti_ H with ⟨c221, H⟩ | ⟨c221, H⟩
  · refine off_ (c' := false) (dF c221) ?_
    exact by (
    refine off_ (c' := false) (dF c221) ?_
    refine v_ (Run.pickF rfl rfl (dF c221) rfl) ?_
    refine dn_ hK220 ?_
    clear hK220
    refine wn_ rfl ?_
    refine WC.skip ?_
    obtain rfl := os H
    exact WQ.via2 (fun _ _ h_ => h_) X63 ⟨t49.2.f1, t49.2.f2, (wrap64 (97 + t46.1)), rfl, Ho59, (St.pick HS (fun W_ h_ => ⟨AllF.get 0 rfl h_, AllF.get 1 rfl h_, trivial⟩) (fun W_ h_ => ⟨AllF.get 0 rfl h_, trivial⟩))⟩ ⟨rfl, rfl, rfl, rfl, trivial⟩ )
  exact by (
  refine on_ (dT c221) ?_
  refine mv_ ?_
  refine on_ (dT c221) ?_
  obtain ⟨t222, ha223, H⟩ := bind_some H
  refine c_ Try.func134 (spec_l01Once.runs k25 b0 (⟨x0.f0, t49.2.f1, t49.2.f2⟩ : S140) A0_0 c0_0 2 _ t222.1 t222.2 _ _ HS.b (HS.nodupM 2 rfl) (HS.boundM 2 rfl) (HS.footOM 2 rfl 1 rfl) hc0_0 (HS.mu 2 rfl) ha223) ?_
  clear ha223
  exact by (
  rintro _ w224 ⟨rfl, hbx_, hrest_, hB1_⟩
  replace HS := HS.calledM 2 rfl hB1_ hrest_ hbx_
  dsimp only [List.set] at HS
  clear hB1_ hrest_ hbx_
  refine ⟨_, rfl, ?_⟩
  refine v_ (Run.pickT rfl rfl (dT c221) rfl) ?_
  exact by (
  refine dn_ hK220 ?_
  clear hK220
  rcases eti_ H with ⟨c225, H⟩ | ⟨c225, H⟩
  · refine wn_ (bF c225) ?_
    refine WC.skip ?_
    obtain rfl := os H
    exact WQ.via2 (fun _ _ h_ => h_) X63 ⟨t222.2.f1, t222.2.f2, (wrap64 (97 + t46.1)), rfl, Ho59, (St.pick HS (fun W_ h_ => ⟨AllF.get 0 rfl h_, AllF.get 1 rfl h_, trivial⟩) (fun W_ h_ => ⟨AllF.get 0 rfl h_, trivial⟩))⟩ ⟨rfl, rfl, rfl, rfl, trivial⟩
  exact by (
  refine wy_ c225 ?_
  refine rg_ ?_
  refine mv_ ?_
  refine mv_ ?_
  obtain ⟨t226, ha227, H⟩ := bind_some H
  refine c_ Try.func80 (spec_l01Below.runs k25 b0 (⟨x0.f0, t222.2.f1, t222.2.f2⟩ : S140) A0_0 c0_0 i14 _ t226.1 t226.2 _ _ HS.b (HS.nodupM 2 rfl) (HS.boundM 2 rfl) (HS.footOM 2 rfl 1 rfl) hc0_0 (HS.mu 2 rfl) ha227) ?_
  exact by (
  clear ha227
  rintro _ w228 ⟨rfl, hbx_, hrest_, hB1_⟩
  replace HS := HS.calledM 2 rfl hB1_ hrest_ hbx_
  dsimp only [List.set] at HS
  clear hB1_ hrest_ hbx_
  refine ⟨_, rfl, ?_⟩
  exact by (
  refine b_ bin_add64 ?_
  refine v_ (fa_ Try.underlying112) ?_
  refine WL.store HS 0 rfl rfl rfl rfl rfl rfl rfl (by kernel_rfl) (Nat.le_of_ble_eq_true rfl) (cs' := #[.int .i64 (wrap64 (256 + t226.1)), .int .i64 (wrap64 (97 + t49.1))]) (by kernel_rfl) (fun w229 HS => ?_)
  dsimp only [List.set] at HS
  refine WL.done ?_
  obtain rfl := os H
  exact WQ.via2 (fun _ _ h_ => h_) X63 ⟨t226.2.f1, t226.2.f2, (wrap64 (256 + t226.1)), rfl, Ho59, (St.pick HS (fun W_ h_ => ⟨AllF.get 0 rfl h_, AllF.get 1 rfl h_, trivial⟩) (fun W_ h_ => ⟨AllF.get 0 rfl h_, trivial⟩))⟩ ⟨rfl, rfl, rfl, rfl, trivial⟩ )))))))))))))))))))
def spec_Vocab.g (k : Nat) (x0 : S39) : Option Int := (some (wrap64 (256 + (x0.f3.length : Int))))
theorem spec_Vocab.runs (k : Nat) (cs0 : List Value) (x0 : S39) (r : Int) (w : World) (hk0 : k39.K w x0 cs0) (H : spec_Vocab.g k x0 = some r) :
    Calls Try.prog 15 #[.agg cs0.toArray] w fun e w' => e = .returned (.int .i64 r) ∧ Below w.heap.size w w' := by
  have el0 : cs0.length = 14 := k39.K_len hk0
  unfold spec_Vocab.g at H
  have HS : St (fun _ => True) w w [] [(fun W => k39.K W x0 cs0)] [] := St.start (foot_cons (foot_K h39 hk0) foot_nil)
  refine cw_ (n := 7) Try.func15 fun R_ hR_ => ?_
  refine sr_ fun _ hK1 => ?_
  refine bo_ HS (fun b2 w3 hb2 HS => ?_)
  exact by (
  refine as_ ?_
  refine dn_ hK1 ?_
  clear hK1
  refine sr_ fun _ hK4 => ?_
  refine v_ (fa_ Try.underlying39) ?_
  obtain ⟨A5, c6, hc7, le8, HS⟩ := HS.sO 0 rfl at39_3
  exact by (
  refine v_ (lb_ (HS.mu 0 rfl) Try.underlying34 hc7) ?_
  refine ln_ Try.underlying34 ?_
  refine b_ bin_add64 ?_
  refine as_ ?_
  refine dn_ hK4 ?_
  clear hK4
  obtain rfl := os H
  exact rt1 Try.f15 rfl rfl hR_ ⟨rfl, HS.b⟩ ))
end Go.Proofs.Ytacbkcofcbglhaa.PFnBudget
