/- Functions that the statement reaches, as Lean functions, and the proof that a call of each comes to just its answer; written by this claim's own program. No conditions. -/
import Derived.Test.YtacbkcofcbglhaaPFnExactLayerOkx0
import Derived.Test.YtacbkcofcbglhaaPFnExactLayerOkx1
import Derived.Test.YtacbkcofcbglhaaPFnExactLayerOkx2
import Derived.Test.YtacbkcofcbglhaaPFnExactLayerOkx3
import Derived.Test.YtacbkcofcbglhaaPFnExactLayerOkx4
import Derived.Test.YtacbkcofcbglhaaPFnExactLayerOkx5
import Derived.Test.YtacbkcofcbglhaaPFnExactLayerOkx6
import Derived.Test.YtacbkcofcbglhaaVFnExactLayerOk0
namespace Go.Proofs.Ytacbkcofcbglhaa.PFnExactLayerOk
open Go.RowKit Go.Proofs.YtacbkcofcbglhaaW.PrintWords Go.Proofs.YtacbkcofcbglhaaW.PrintLast Go.Proofs.YtacbkcofcbglhaaW.PrintMore Go.Proofs.Ytacbkcofcbglhaa.XW Go.Proofs.Ytacbkcofcbglhaa.XOp Go.Proofs.Ytacbkcofcbglhaa.XSt Go.Proofs.Ytacbkcofcbglhaa.XDraw
set_option linter.unusedVariables false
set_option linter.unusedSimpArgs false
structure S36 where
  f0 : Int
  f1 : List (List Int)
  f2 : List (List Int)
  f3 : Int
  f4 : Int
def k36 : Kd S36 := Kd.iso (Kd.pair (Kd.int .i64) (Kd.pair (Kd.slice 25 (Kd.slice 3 (Kd.int .i64))) (Kd.pair (Kd.slice 25 (Kd.slice 3 (Kd.int .i64))) (Kd.pair (Kd.int .i64) (Kd.int .i64))))) (fun x : S36 => (x.f0, x.f1, x.f2, x.f3, x.f4))
theorem k36_mk (w : World) (x : S36) {A1 : Option Addr} {c1 : Nat} (l1 : x.f1.length ≤ c1) (g1 : (Kd.slice 3 (Kd.int .i64)).C w A1 x.f1.length x.f1) {A2 : Option Addr} {c2 : Nat} (l2 : x.f2.length ≤ c2) (g2 : (Kd.slice 3 (Kd.int .i64)).C w A2 x.f2.length x.f2) : k36.K w x [.int .i64 x.f0, .slice A1 x.f1.length c1, .slice A2 x.f2.length c2, .int .i64 x.f3, .int .i64 x.f4] := ⟨[.int .i64 x.f0], [.slice A1 x.f1.length c1, .slice A2 x.f2.length c2, .int .i64 x.f3, .int .i64 x.f4], rfl, rfl, ⟨[.slice A1 x.f1.length c1], [.slice A2 x.f2.length c2, .int .i64 x.f3, .int .i64 x.f4], rfl, ⟨A1, c1, rfl, l1, g1⟩, ⟨[.slice A2 x.f2.length c2], [.int .i64 x.f3, .int .i64 x.f4], rfl, ⟨A2, c2, rfl, l2, g2⟩, ⟨[.int .i64 x.f3], [.int .i64 x.f4], rfl, rfl, rfl⟩⟩⟩⟩
structure S27 where
  f0 : Int
  f1 : List (List Int)
  f2 : List (List Int)
  f3 : Int
  f4 : Int
def k27 : Kd S27 := Kd.iso (Kd.pair (Kd.int .i64) (Kd.pair (Kd.slice 25 (Kd.slice 3 (Kd.int .i64))) (Kd.pair (Kd.slice 25 (Kd.slice 3 (Kd.int .i64))) (Kd.pair (Kd.int .i64) (Kd.int .i64))))) (fun x : S27 => (x.f0, x.f1, x.f2, x.f3, x.f4))
structure S44 where
  f0 : List Int
  f1 : S27
  f2 : S27
  f3 : S27
  f4 : S27
  f5 : List Int
  f6 : S27
  f7 : S27
def k44 : Kd S44 := Kd.iso (Kd.pair (Kd.slice 3 (Kd.int .i64)) (Kd.pair k27 (Kd.pair k27 (Kd.pair k27 (Kd.pair k27 (Kd.pair (Kd.slice 3 (Kd.int .i64)) (Kd.pair k27 k27))))))) (fun x : S44 => (x.f0, x.f1, x.f2, x.f3, x.f4, x.f5, x.f6, x.f7))
structure S48 where
  f0 : List Int
  f1 : S36
  f2 : S36
  f3 : S36
  f4 : S36
  f5 : List Int
  f6 : S36
  f7 : S36
def k48 : Kd S48 := Kd.iso (Kd.pair (Kd.slice 3 (Kd.int .i64)) (Kd.pair k36 (Kd.pair k36 (Kd.pair k36 (Kd.pair k36 (Kd.pair (Kd.slice 3 (Kd.int .i64)) (Kd.pair k36 k36))))))) (fun x : S48 => (x.f0, x.f1, x.f2, x.f3, x.f4, x.f5, x.f6, x.f7))
theorem k48_mk (w : World) (x : S48) {A0 : Option Addr} {c0 : Nat} (l0 : x.f0.length ≤ c0) (g0 : (Kd.int .i64).C w A0 x.f0.length x.f0) {A2 : Option Addr} {c2 : Nat} (l2 : x.f1.f1.length ≤ c2) (g2 : (Kd.slice 3 (Kd.int .i64)).C w A2 x.f1.f1.length x.f1.f1) {A3 : Option Addr} {c3 : Nat} (l3 : x.f1.f2.length ≤ c3) (g3 : (Kd.slice 3 (Kd.int .i64)).C w A3 x.f1.f2.length x.f1.f2) {A7 : Option Addr} {c7 : Nat} (l7 : x.f2.f1.length ≤ c7) (g7 : (Kd.slice 3 (Kd.int .i64)).C w A7 x.f2.f1.length x.f2.f1) {A8 : Option Addr} {c8 : Nat} (l8 : x.f2.f2.length ≤ c8) (g8 : (Kd.slice 3 (Kd.int .i64)).C w A8 x.f2.f2.length x.f2.f2) {A12 : Option Addr} {c12 : Nat} (l12 : x.f3.f1.length ≤ c12) (g12 : (Kd.slice 3 (Kd.int .i64)).C w A12 x.f3.f1.length x.f3.f1) {A13 : Option Addr} {c13 : Nat} (l13 : x.f3.f2.length ≤ c13) (g13 : (Kd.slice 3 (Kd.int .i64)).C w A13 x.f3.f2.length x.f3.f2) {A17 : Option Addr} {c17 : Nat} (l17 : x.f4.f1.length ≤ c17) (g17 : (Kd.slice 3 (Kd.int .i64)).C w A17 x.f4.f1.length x.f4.f1) {A18 : Option Addr} {c18 : Nat} (l18 : x.f4.f2.length ≤ c18) (g18 : (Kd.slice 3 (Kd.int .i64)).C w A18 x.f4.f2.length x.f4.f2) {A21 : Option Addr} {c21 : Nat} (l21 : x.f5.length ≤ c21) (g21 : (Kd.int .i64).C w A21 x.f5.length x.f5) {A23 : Option Addr} {c23 : Nat} (l23 : x.f6.f1.length ≤ c23) (g23 : (Kd.slice 3 (Kd.int .i64)).C w A23 x.f6.f1.length x.f6.f1) {A24 : Option Addr} {c24 : Nat} (l24 : x.f6.f2.length ≤ c24) (g24 : (Kd.slice 3 (Kd.int .i64)).C w A24 x.f6.f2.length x.f6.f2) {A28 : Option Addr} {c28 : Nat} (l28 : x.f7.f1.length ≤ c28) (g28 : (Kd.slice 3 (Kd.int .i64)).C w A28 x.f7.f1.length x.f7.f1) {A29 : Option Addr} {c29 : Nat} (l29 : x.f7.f2.length ≤ c29) (g29 : (Kd.slice 3 (Kd.int .i64)).C w A29 x.f7.f2.length x.f7.f2) : k48.K w x [.slice A0 x.f0.length c0, .int .i64 x.f1.f0, .slice A2 x.f1.f1.length c2, .slice A3 x.f1.f2.length c3, .int .i64 x.f1.f3, .int .i64 x.f1.f4, .int .i64 x.f2.f0, .slice A7 x.f2.f1.length c7, .slice A8 x.f2.f2.length c8, .int .i64 x.f2.f3, .int .i64 x.f2.f4, .int .i64 x.f3.f0, .slice A12 x.f3.f1.length c12, .slice A13 x.f3.f2.length c13, .int .i64 x.f3.f3, .int .i64 x.f3.f4, .int .i64 x.f4.f0, .slice A17 x.f4.f1.length c17, .slice A18 x.f4.f2.length c18, .int .i64 x.f4.f3, .int .i64 x.f4.f4, .slice A21 x.f5.length c21, .int .i64 x.f6.f0, .slice A23 x.f6.f1.length c23, .slice A24 x.f6.f2.length c24, .int .i64 x.f6.f3, .int .i64 x.f6.f4, .int .i64 x.f7.f0, .slice A28 x.f7.f1.length c28, .slice A29 x.f7.f2.length c29, .int .i64 x.f7.f3, .int .i64 x.f7.f4] := ⟨[.slice A0 x.f0.length c0], [.int .i64 x.f1.f0, .slice A2 x.f1.f1.length c2, .slice A3 x.f1.f2.length c3, .int .i64 x.f1.f3, .int .i64 x.f1.f4, .int .i64 x.f2.f0, .slice A7 x.f2.f1.length c7, .slice A8 x.f2.f2.length c8, .int .i64 x.f2.f3, .int .i64 x.f2.f4, .int .i64 x.f3.f0, .slice A12 x.f3.f1.length c12, .slice A13 x.f3.f2.length c13, .int .i64 x.f3.f3, .int .i64 x.f3.f4, .int .i64 x.f4.f0, .slice A17 x.f4.f1.length c17, .slice A18 x.f4.f2.length c18, .int .i64 x.f4.f3, .int .i64 x.f4.f4, .slice A21 x.f5.length c21, .int .i64 x.f6.f0, .slice A23 x.f6.f1.length c23, .slice A24 x.f6.f2.length c24, .int .i64 x.f6.f3, .int .i64 x.f6.f4, .int .i64 x.f7.f0, .slice A28 x.f7.f1.length c28, .slice A29 x.f7.f2.length c29, .int .i64 x.f7.f3, .int .i64 x.f7.f4], rfl, ⟨A0, c0, rfl, l0, g0⟩, ⟨[.int .i64 x.f1.f0, .slice A2 x.f1.f1.length c2, .slice A3 x.f1.f2.length c3, .int .i64 x.f1.f3, .int .i64 x.f1.f4], [.int .i64 x.f2.f0, .slice A7 x.f2.f1.length c7, .slice A8 x.f2.f2.length c8, .int .i64 x.f2.f3, .int .i64 x.f2.f4, .int .i64 x.f3.f0, .slice A12 x.f3.f1.length c12, .slice A13 x.f3.f2.length c13, .int .i64 x.f3.f3, .int .i64 x.f3.f4, .int .i64 x.f4.f0, .slice A17 x.f4.f1.length c17, .slice A18 x.f4.f2.length c18, .int .i64 x.f4.f3, .int .i64 x.f4.f4, .slice A21 x.f5.length c21, .int .i64 x.f6.f0, .slice A23 x.f6.f1.length c23, .slice A24 x.f6.f2.length c24, .int .i64 x.f6.f3, .int .i64 x.f6.f4, .int .i64 x.f7.f0, .slice A28 x.f7.f1.length c28, .slice A29 x.f7.f2.length c29, .int .i64 x.f7.f3, .int .i64 x.f7.f4], rfl, ⟨[.int .i64 x.f1.f0], [.slice A2 x.f1.f1.length c2, .slice A3 x.f1.f2.length c3, .int .i64 x.f1.f3, .int .i64 x.f1.f4], rfl, rfl, ⟨[.slice A2 x.f1.f1.length c2], [.slice A3 x.f1.f2.length c3, .int .i64 x.f1.f3, .int .i64 x.f1.f4], rfl, ⟨A2, c2, rfl, l2, g2⟩, ⟨[.slice A3 x.f1.f2.length c3], [.int .i64 x.f1.f3, .int .i64 x.f1.f4], rfl, ⟨A3, c3, rfl, l3, g3⟩, ⟨[.int .i64 x.f1.f3], [.int .i64 x.f1.f4], rfl, rfl, rfl⟩⟩⟩⟩, ⟨[.int .i64 x.f2.f0, .slice A7 x.f2.f1.length c7, .slice A8 x.f2.f2.length c8, .int .i64 x.f2.f3, .int .i64 x.f2.f4], [.int .i64 x.f3.f0, .slice A12 x.f3.f1.length c12, .slice A13 x.f3.f2.length c13, .int .i64 x.f3.f3, .int .i64 x.f3.f4, .int .i64 x.f4.f0, .slice A17 x.f4.f1.length c17, .slice A18 x.f4.f2.length c18, .int .i64 x.f4.f3, .int .i64 x.f4.f4, .slice A21 x.f5.length c21, .int .i64 x.f6.f0, .slice A23 x.f6.f1.length c23, .slice A24 x.f6.f2.length c24, .int .i64 x.f6.f3, .int .i64 x.f6.f4, .int .i64 x.f7.f0, .slice A28 x.f7.f1.length c28, .slice A29 x.f7.f2.length c29, .int .i64 x.f7.f3, .int .i64 x.f7.f4], rfl, ⟨[.int .i64 x.f2.f0], [.slice A7 x.f2.f1.length c7, .slice A8 x.f2.f2.length c8, .int .i64 x.f2.f3, .int .i64 x.f2.f4], rfl, rfl, ⟨[.slice A7 x.f2.f1.length c7], [.slice A8 x.f2.f2.length c8, .int .i64 x.f2.f3, .int .i64 x.f2.f4], rfl, ⟨A7, c7, rfl, l7, g7⟩, ⟨[.slice A8 x.f2.f2.length c8], [.int .i64 x.f2.f3, .int .i64 x.f2.f4], rfl, ⟨A8, c8, rfl, l8, g8⟩, ⟨[.int .i64 x.f2.f3], [.int .i64 x.f2.f4], rfl, rfl, rfl⟩⟩⟩⟩, ⟨[.int .i64 x.f3.f0, .slice A12 x.f3.f1.length c12, .slice A13 x.f3.f2.length c13, .int .i64 x.f3.f3, .int .i64 x.f3.f4], [.int .i64 x.f4.f0, .slice A17 x.f4.f1.length c17, .slice A18 x.f4.f2.length c18, .int .i64 x.f4.f3, .int .i64 x.f4.f4, .slice A21 x.f5.length c21, .int .i64 x.f6.f0, .slice A23 x.f6.f1.length c23, .slice A24 x.f6.f2.length c24, .int .i64 x.f6.f3, .int .i64 x.f6.f4, .int .i64 x.f7.f0, .slice A28 x.f7.f1.length c28, .slice A29 x.f7.f2.length c29, .int .i64 x.f7.f3, .int .i64 x.f7.f4], rfl, ⟨[.int .i64 x.f3.f0], [.slice A12 x.f3.f1.length c12, .slice A13 x.f3.f2.length c13, .int .i64 x.f3.f3, .int .i64 x.f3.f4], rfl, rfl, ⟨[.slice A12 x.f3.f1.length c12], [.slice A13 x.f3.f2.length c13, .int .i64 x.f3.f3, .int .i64 x.f3.f4], rfl, ⟨A12, c12, rfl, l12, g12⟩, ⟨[.slice A13 x.f3.f2.length c13], [.int .i64 x.f3.f3, .int .i64 x.f3.f4], rfl, ⟨A13, c13, rfl, l13, g13⟩, ⟨[.int .i64 x.f3.f3], [.int .i64 x.f3.f4], rfl, rfl, rfl⟩⟩⟩⟩, ⟨[.int .i64 x.f4.f0, .slice A17 x.f4.f1.length c17, .slice A18 x.f4.f2.length c18, .int .i64 x.f4.f3, .int .i64 x.f4.f4], [.slice A21 x.f5.length c21, .int .i64 x.f6.f0, .slice A23 x.f6.f1.length c23, .slice A24 x.f6.f2.length c24, .int .i64 x.f6.f3, .int .i64 x.f6.f4, .int .i64 x.f7.f0, .slice A28 x.f7.f1.length c28, .slice A29 x.f7.f2.length c29, .int .i64 x.f7.f3, .int .i64 x.f7.f4], rfl, ⟨[.int .i64 x.f4.f0], [.slice A17 x.f4.f1.length c17, .slice A18 x.f4.f2.length c18, .int .i64 x.f4.f3, .int .i64 x.f4.f4], rfl, rfl, ⟨[.slice A17 x.f4.f1.length c17], [.slice A18 x.f4.f2.length c18, .int .i64 x.f4.f3, .int .i64 x.f4.f4], rfl, ⟨A17, c17, rfl, l17, g17⟩, ⟨[.slice A18 x.f4.f2.length c18], [.int .i64 x.f4.f3, .int .i64 x.f4.f4], rfl, ⟨A18, c18, rfl, l18, g18⟩, ⟨[.int .i64 x.f4.f3], [.int .i64 x.f4.f4], rfl, rfl, rfl⟩⟩⟩⟩, ⟨[.slice A21 x.f5.length c21], [.int .i64 x.f6.f0, .slice A23 x.f6.f1.length c23, .slice A24 x.f6.f2.length c24, .int .i64 x.f6.f3, .int .i64 x.f6.f4, .int .i64 x.f7.f0, .slice A28 x.f7.f1.length c28, .slice A29 x.f7.f2.length c29, .int .i64 x.f7.f3, .int .i64 x.f7.f4], rfl, ⟨A21, c21, rfl, l21, g21⟩, ⟨[.int .i64 x.f6.f0, .slice A23 x.f6.f1.length c23, .slice A24 x.f6.f2.length c24, .int .i64 x.f6.f3, .int .i64 x.f6.f4], [.int .i64 x.f7.f0, .slice A28 x.f7.f1.length c28, .slice A29 x.f7.f2.length c29, .int .i64 x.f7.f3, .int .i64 x.f7.f4], rfl, ⟨[.int .i64 x.f6.f0], [.slice A23 x.f6.f1.length c23, .slice A24 x.f6.f2.length c24, .int .i64 x.f6.f3, .int .i64 x.f6.f4], rfl, rfl, ⟨[.slice A23 x.f6.f1.length c23], [.slice A24 x.f6.f2.length c24, .int .i64 x.f6.f3, .int .i64 x.f6.f4], rfl, ⟨A23, c23, rfl, l23, g23⟩, ⟨[.slice A24 x.f6.f2.length c24], [.int .i64 x.f6.f3, .int .i64 x.f6.f4], rfl, ⟨A24, c24, rfl, l24, g24⟩, ⟨[.int .i64 x.f6.f3], [.int .i64 x.f6.f4], rfl, rfl, rfl⟩⟩⟩⟩, ⟨[.int .i64 x.f7.f0], [.slice A28 x.f7.f1.length c28, .slice A29 x.f7.f2.length c29, .int .i64 x.f7.f3, .int .i64 x.f7.f4], rfl, rfl, ⟨[.slice A28 x.f7.f1.length c28], [.slice A29 x.f7.f2.length c29, .int .i64 x.f7.f3, .int .i64 x.f7.f4], rfl, ⟨A28, c28, rfl, l28, g28⟩, ⟨[.slice A29 x.f7.f2.length c29], [.int .i64 x.f7.f3, .int .i64 x.f7.f4], rfl, ⟨A29, c29, rfl, l29, g29⟩, ⟨[.int .i64 x.f7.f3], [.int .i64 x.f7.f4], rfl, rfl, rfl⟩⟩⟩⟩⟩⟩⟩⟩⟩⟩⟩
def o36 : S36 := ⟨0, [], [], 0, 0⟩
theorem h36 : Kd.Heap k36 := Kd.heap_iso _ (Kd.heap_pair (Kd.heap_int _) (Kd.heap_pair (Kd.heap_slice _ (Kd.heap_slice _ (Kd.heap_int _))) (Kd.heap_pair (Kd.heap_slice _ (Kd.heap_slice _ (Kd.heap_int _))) (Kd.heap_pair (Kd.heap_int _) (Kd.heap_int _)))))
theorem h27 : Kd.Heap k27 := Kd.heap_iso _ (Kd.heap_pair (Kd.heap_int _) (Kd.heap_pair (Kd.heap_slice _ (Kd.heap_slice _ (Kd.heap_int _))) (Kd.heap_pair (Kd.heap_slice _ (Kd.heap_slice _ (Kd.heap_int _))) (Kd.heap_pair (Kd.heap_int _) (Kd.heap_int _)))))
theorem h44 : Kd.Heap k44 := Kd.heap_iso _ (Kd.heap_pair (Kd.heap_slice _ (Kd.heap_int _)) (Kd.heap_pair h27 (Kd.heap_pair h27 (Kd.heap_pair h27 (Kd.heap_pair h27 (Kd.heap_pair (Kd.heap_slice _ (Kd.heap_int _)) (Kd.heap_pair h27 h27)))))))
theorem h48 : Kd.Heap k48 := Kd.heap_iso _ (Kd.heap_pair (Kd.heap_slice _ (Kd.heap_int _)) (Kd.heap_pair h36 (Kd.heap_pair h36 (Kd.heap_pair h36 (Kd.heap_pair h36 (Kd.heap_pair (Kd.heap_slice _ (Kd.heap_int _)) (Kd.heap_pair h36 h36)))))))
theorem at36_0 {w : World} {x : S36} {cs : List Value} (h : AtK k36 w x cs 0) : AtK (Kd.int .i64) w x.f0 cs 0 := h.iso.fst
theorem at36_1 {w : World} {x : S36} {cs : List Value} (h : AtK k36 w x cs 0) : AtK (Kd.slice 25 (Kd.slice 3 (Kd.int .i64))) w x.f1 cs 1 := (h.iso.snd rfl).fst
theorem at36_2 {w : World} {x : S36} {cs : List Value} (h : AtK k36 w x cs 0) : AtK (Kd.slice 25 (Kd.slice 3 (Kd.int .i64))) w x.f2 cs 2 := ((h.iso.snd rfl).snd rfl).fst
theorem at36_3 {w : World} {x : S36} {cs : List Value} (h : AtK k36 w x cs 0) : AtK (Kd.int .i64) w x.f3 cs 3 := (((h.iso.snd rfl).snd rfl).snd rfl).fst
theorem at36_4 {w : World} {x : S36} {cs : List Value} (h : AtK k36 w x cs 0) : AtK (Kd.int .i64) w x.f4 cs 4 := ((((h.iso.snd rfl).snd rfl).snd rfl).snd rfl)
theorem at44_0 {w : World} {x : S44} {cs : List Value} (h : AtK k44 w x cs 0) : AtK (Kd.slice 3 (Kd.int .i64)) w x.f0 cs 0 := h.iso.fst
theorem at44_1 {w : World} {x : S44} {cs : List Value} (h : AtK k44 w x cs 0) : AtK (Kd.int .i64) w x.f1.f0 cs 1 := (h.iso.snd rfl).fst.iso.fst
theorem at44_2 {w : World} {x : S44} {cs : List Value} (h : AtK k44 w x cs 0) : AtK (Kd.slice 25 (Kd.slice 3 (Kd.int .i64))) w x.f1.f1 cs 2 := ((h.iso.snd rfl).fst.iso.snd rfl).fst
theorem at44_3 {w : World} {x : S44} {cs : List Value} (h : AtK k44 w x cs 0) : AtK (Kd.slice 25 (Kd.slice 3 (Kd.int .i64))) w x.f1.f2 cs 3 := (((h.iso.snd rfl).fst.iso.snd rfl).snd rfl).fst
theorem at44_4 {w : World} {x : S44} {cs : List Value} (h : AtK k44 w x cs 0) : AtK (Kd.int .i64) w x.f1.f3 cs 4 := ((((h.iso.snd rfl).fst.iso.snd rfl).snd rfl).snd rfl).fst
theorem at44_5 {w : World} {x : S44} {cs : List Value} (h : AtK k44 w x cs 0) : AtK (Kd.int .i64) w x.f1.f4 cs 5 := (((((h.iso.snd rfl).fst.iso.snd rfl).snd rfl).snd rfl).snd rfl)
theorem at44_6 {w : World} {x : S44} {cs : List Value} (h : AtK k44 w x cs 0) : AtK (Kd.int .i64) w x.f2.f0 cs 6 := ((h.iso.snd rfl).snd rfl).fst.iso.fst
theorem at44_7 {w : World} {x : S44} {cs : List Value} (h : AtK k44 w x cs 0) : AtK (Kd.slice 25 (Kd.slice 3 (Kd.int .i64))) w x.f2.f1 cs 7 := (((h.iso.snd rfl).snd rfl).fst.iso.snd rfl).fst
theorem at44_8 {w : World} {x : S44} {cs : List Value} (h : AtK k44 w x cs 0) : AtK (Kd.slice 25 (Kd.slice 3 (Kd.int .i64))) w x.f2.f2 cs 8 := ((((h.iso.snd rfl).snd rfl).fst.iso.snd rfl).snd rfl).fst
theorem at44_9 {w : World} {x : S44} {cs : List Value} (h : AtK k44 w x cs 0) : AtK (Kd.int .i64) w x.f2.f3 cs 9 := (((((h.iso.snd rfl).snd rfl).fst.iso.snd rfl).snd rfl).snd rfl).fst
theorem at44_10 {w : World} {x : S44} {cs : List Value} (h : AtK k44 w x cs 0) : AtK (Kd.int .i64) w x.f2.f4 cs 10 := ((((((h.iso.snd rfl).snd rfl).fst.iso.snd rfl).snd rfl).snd rfl).snd rfl)
theorem at44_11 {w : World} {x : S44} {cs : List Value} (h : AtK k44 w x cs 0) : AtK (Kd.int .i64) w x.f3.f0 cs 11 := (((h.iso.snd rfl).snd rfl).snd rfl).fst.iso.fst
theorem at44_12 {w : World} {x : S44} {cs : List Value} (h : AtK k44 w x cs 0) : AtK (Kd.slice 25 (Kd.slice 3 (Kd.int .i64))) w x.f3.f1 cs 12 := ((((h.iso.snd rfl).snd rfl).snd rfl).fst.iso.snd rfl).fst
theorem at44_13 {w : World} {x : S44} {cs : List Value} (h : AtK k44 w x cs 0) : AtK (Kd.slice 25 (Kd.slice 3 (Kd.int .i64))) w x.f3.f2 cs 13 := (((((h.iso.snd rfl).snd rfl).snd rfl).fst.iso.snd rfl).snd rfl).fst
theorem at44_14 {w : World} {x : S44} {cs : List Value} (h : AtK k44 w x cs 0) : AtK (Kd.int .i64) w x.f3.f3 cs 14 := ((((((h.iso.snd rfl).snd rfl).snd rfl).fst.iso.snd rfl).snd rfl).snd rfl).fst
theorem at44_15 {w : World} {x : S44} {cs : List Value} (h : AtK k44 w x cs 0) : AtK (Kd.int .i64) w x.f3.f4 cs 15 := (((((((h.iso.snd rfl).snd rfl).snd rfl).fst.iso.snd rfl).snd rfl).snd rfl).snd rfl)
theorem at44_16 {w : World} {x : S44} {cs : List Value} (h : AtK k44 w x cs 0) : AtK (Kd.int .i64) w x.f4.f0 cs 16 := ((((h.iso.snd rfl).snd rfl).snd rfl).snd rfl).fst.iso.fst
theorem at44_17 {w : World} {x : S44} {cs : List Value} (h : AtK k44 w x cs 0) : AtK (Kd.slice 25 (Kd.slice 3 (Kd.int .i64))) w x.f4.f1 cs 17 := (((((h.iso.snd rfl).snd rfl).snd rfl).snd rfl).fst.iso.snd rfl).fst
theorem at44_18 {w : World} {x : S44} {cs : List Value} (h : AtK k44 w x cs 0) : AtK (Kd.slice 25 (Kd.slice 3 (Kd.int .i64))) w x.f4.f2 cs 18 := ((((((h.iso.snd rfl).snd rfl).snd rfl).snd rfl).fst.iso.snd rfl).snd rfl).fst
theorem at44_19 {w : World} {x : S44} {cs : List Value} (h : AtK k44 w x cs 0) : AtK (Kd.int .i64) w x.f4.f3 cs 19 := (((((((h.iso.snd rfl).snd rfl).snd rfl).snd rfl).fst.iso.snd rfl).snd rfl).snd rfl).fst
theorem at44_20 {w : World} {x : S44} {cs : List Value} (h : AtK k44 w x cs 0) : AtK (Kd.int .i64) w x.f4.f4 cs 20 := ((((((((h.iso.snd rfl).snd rfl).snd rfl).snd rfl).fst.iso.snd rfl).snd rfl).snd rfl).snd rfl)
theorem at44_21 {w : World} {x : S44} {cs : List Value} (h : AtK k44 w x cs 0) : AtK (Kd.slice 3 (Kd.int .i64)) w x.f5 cs 21 := (((((h.iso.snd rfl).snd rfl).snd rfl).snd rfl).snd rfl).fst
theorem at44_22 {w : World} {x : S44} {cs : List Value} (h : AtK k44 w x cs 0) : AtK (Kd.int .i64) w x.f6.f0 cs 22 := ((((((h.iso.snd rfl).snd rfl).snd rfl).snd rfl).snd rfl).snd rfl).fst.iso.fst
theorem at44_23 {w : World} {x : S44} {cs : List Value} (h : AtK k44 w x cs 0) : AtK (Kd.slice 25 (Kd.slice 3 (Kd.int .i64))) w x.f6.f1 cs 23 := (((((((h.iso.snd rfl).snd rfl).snd rfl).snd rfl).snd rfl).snd rfl).fst.iso.snd rfl).fst
theorem at44_24 {w : World} {x : S44} {cs : List Value} (h : AtK k44 w x cs 0) : AtK (Kd.slice 25 (Kd.slice 3 (Kd.int .i64))) w x.f6.f2 cs 24 := ((((((((h.iso.snd rfl).snd rfl).snd rfl).snd rfl).snd rfl).snd rfl).fst.iso.snd rfl).snd rfl).fst
theorem at44_25 {w : World} {x : S44} {cs : List Value} (h : AtK k44 w x cs 0) : AtK (Kd.int .i64) w x.f6.f3 cs 25 := (((((((((h.iso.snd rfl).snd rfl).snd rfl).snd rfl).snd rfl).snd rfl).fst.iso.snd rfl).snd rfl).snd rfl).fst
theorem at44_26 {w : World} {x : S44} {cs : List Value} (h : AtK k44 w x cs 0) : AtK (Kd.int .i64) w x.f6.f4 cs 26 := ((((((((((h.iso.snd rfl).snd rfl).snd rfl).snd rfl).snd rfl).snd rfl).fst.iso.snd rfl).snd rfl).snd rfl).snd rfl)
theorem at44_27 {w : World} {x : S44} {cs : List Value} (h : AtK k44 w x cs 0) : AtK (Kd.int .i64) w x.f7.f0 cs 27 := (((((((h.iso.snd rfl).snd rfl).snd rfl).snd rfl).snd rfl).snd rfl).snd rfl).iso.fst
theorem at44_28 {w : World} {x : S44} {cs : List Value} (h : AtK k44 w x cs 0) : AtK (Kd.slice 25 (Kd.slice 3 (Kd.int .i64))) w x.f7.f1 cs 28 := ((((((((h.iso.snd rfl).snd rfl).snd rfl).snd rfl).snd rfl).snd rfl).snd rfl).iso.snd rfl).fst
theorem at44_29 {w : World} {x : S44} {cs : List Value} (h : AtK k44 w x cs 0) : AtK (Kd.slice 25 (Kd.slice 3 (Kd.int .i64))) w x.f7.f2 cs 29 := (((((((((h.iso.snd rfl).snd rfl).snd rfl).snd rfl).snd rfl).snd rfl).snd rfl).iso.snd rfl).snd rfl).fst
theorem at44_30 {w : World} {x : S44} {cs : List Value} (h : AtK k44 w x cs 0) : AtK (Kd.int .i64) w x.f7.f3 cs 30 := ((((((((((h.iso.snd rfl).snd rfl).snd rfl).snd rfl).snd rfl).snd rfl).snd rfl).iso.snd rfl).snd rfl).snd rfl).fst
theorem at44_31 {w : World} {x : S44} {cs : List Value} (h : AtK k44 w x cs 0) : AtK (Kd.int .i64) w x.f7.f4 cs 31 := (((((((((((h.iso.snd rfl).snd rfl).snd rfl).snd rfl).snd rfl).snd rfl).snd rfl).iso.snd rfl).snd rfl).snd rfl).snd rfl)
theorem at48_0 {w : World} {x : S48} {cs : List Value} (h : AtK k48 w x cs 0) : AtK (Kd.slice 3 (Kd.int .i64)) w x.f0 cs 0 := h.iso.fst
theorem at48_1 {w : World} {x : S48} {cs : List Value} (h : AtK k48 w x cs 0) : AtK (Kd.int .i64) w x.f1.f0 cs 1 := (h.iso.snd rfl).fst.iso.fst
theorem at48_2 {w : World} {x : S48} {cs : List Value} (h : AtK k48 w x cs 0) : AtK (Kd.slice 25 (Kd.slice 3 (Kd.int .i64))) w x.f1.f1 cs 2 := ((h.iso.snd rfl).fst.iso.snd rfl).fst
theorem at48_3 {w : World} {x : S48} {cs : List Value} (h : AtK k48 w x cs 0) : AtK (Kd.slice 25 (Kd.slice 3 (Kd.int .i64))) w x.f1.f2 cs 3 := (((h.iso.snd rfl).fst.iso.snd rfl).snd rfl).fst
theorem at48_4 {w : World} {x : S48} {cs : List Value} (h : AtK k48 w x cs 0) : AtK (Kd.int .i64) w x.f1.f3 cs 4 := ((((h.iso.snd rfl).fst.iso.snd rfl).snd rfl).snd rfl).fst
theorem at48_5 {w : World} {x : S48} {cs : List Value} (h : AtK k48 w x cs 0) : AtK (Kd.int .i64) w x.f1.f4 cs 5 := (((((h.iso.snd rfl).fst.iso.snd rfl).snd rfl).snd rfl).snd rfl)
theorem at48_6 {w : World} {x : S48} {cs : List Value} (h : AtK k48 w x cs 0) : AtK (Kd.int .i64) w x.f2.f0 cs 6 := ((h.iso.snd rfl).snd rfl).fst.iso.fst
theorem at48_7 {w : World} {x : S48} {cs : List Value} (h : AtK k48 w x cs 0) : AtK (Kd.slice 25 (Kd.slice 3 (Kd.int .i64))) w x.f2.f1 cs 7 := (((h.iso.snd rfl).snd rfl).fst.iso.snd rfl).fst
theorem at48_8 {w : World} {x : S48} {cs : List Value} (h : AtK k48 w x cs 0) : AtK (Kd.slice 25 (Kd.slice 3 (Kd.int .i64))) w x.f2.f2 cs 8 := ((((h.iso.snd rfl).snd rfl).fst.iso.snd rfl).snd rfl).fst
theorem at48_9 {w : World} {x : S48} {cs : List Value} (h : AtK k48 w x cs 0) : AtK (Kd.int .i64) w x.f2.f3 cs 9 := (((((h.iso.snd rfl).snd rfl).fst.iso.snd rfl).snd rfl).snd rfl).fst
theorem at48_10 {w : World} {x : S48} {cs : List Value} (h : AtK k48 w x cs 0) : AtK (Kd.int .i64) w x.f2.f4 cs 10 := ((((((h.iso.snd rfl).snd rfl).fst.iso.snd rfl).snd rfl).snd rfl).snd rfl)
theorem at48_11 {w : World} {x : S48} {cs : List Value} (h : AtK k48 w x cs 0) : AtK (Kd.int .i64) w x.f3.f0 cs 11 := (((h.iso.snd rfl).snd rfl).snd rfl).fst.iso.fst
theorem at48_12 {w : World} {x : S48} {cs : List Value} (h : AtK k48 w x cs 0) : AtK (Kd.slice 25 (Kd.slice 3 (Kd.int .i64))) w x.f3.f1 cs 12 := ((((h.iso.snd rfl).snd rfl).snd rfl).fst.iso.snd rfl).fst
theorem at48_13 {w : World} {x : S48} {cs : List Value} (h : AtK k48 w x cs 0) : AtK (Kd.slice 25 (Kd.slice 3 (Kd.int .i64))) w x.f3.f2 cs 13 := (((((h.iso.snd rfl).snd rfl).snd rfl).fst.iso.snd rfl).snd rfl).fst
theorem at48_14 {w : World} {x : S48} {cs : List Value} (h : AtK k48 w x cs 0) : AtK (Kd.int .i64) w x.f3.f3 cs 14 := ((((((h.iso.snd rfl).snd rfl).snd rfl).fst.iso.snd rfl).snd rfl).snd rfl).fst
theorem at48_15 {w : World} {x : S48} {cs : List Value} (h : AtK k48 w x cs 0) : AtK (Kd.int .i64) w x.f3.f4 cs 15 := (((((((h.iso.snd rfl).snd rfl).snd rfl).fst.iso.snd rfl).snd rfl).snd rfl).snd rfl)
theorem at48_16 {w : World} {x : S48} {cs : List Value} (h : AtK k48 w x cs 0) : AtK (Kd.int .i64) w x.f4.f0 cs 16 := ((((h.iso.snd rfl).snd rfl).snd rfl).snd rfl).fst.iso.fst
theorem at48_17 {w : World} {x : S48} {cs : List Value} (h : AtK k48 w x cs 0) : AtK (Kd.slice 25 (Kd.slice 3 (Kd.int .i64))) w x.f4.f1 cs 17 := (((((h.iso.snd rfl).snd rfl).snd rfl).snd rfl).fst.iso.snd rfl).fst
theorem at48_18 {w : World} {x : S48} {cs : List Value} (h : AtK k48 w x cs 0) : AtK (Kd.slice 25 (Kd.slice 3 (Kd.int .i64))) w x.f4.f2 cs 18 := ((((((h.iso.snd rfl).snd rfl).snd rfl).snd rfl).fst.iso.snd rfl).snd rfl).fst
theorem at48_19 {w : World} {x : S48} {cs : List Value} (h : AtK k48 w x cs 0) : AtK (Kd.int .i64) w x.f4.f3 cs 19 := (((((((h.iso.snd rfl).snd rfl).snd rfl).snd rfl).fst.iso.snd rfl).snd rfl).snd rfl).fst
theorem at48_20 {w : World} {x : S48} {cs : List Value} (h : AtK k48 w x cs 0) : AtK (Kd.int .i64) w x.f4.f4 cs 20 := ((((((((h.iso.snd rfl).snd rfl).snd rfl).snd rfl).fst.iso.snd rfl).snd rfl).snd rfl).snd rfl)
theorem at48_21 {w : World} {x : S48} {cs : List Value} (h : AtK k48 w x cs 0) : AtK (Kd.slice 3 (Kd.int .i64)) w x.f5 cs 21 := (((((h.iso.snd rfl).snd rfl).snd rfl).snd rfl).snd rfl).fst
theorem at48_22 {w : World} {x : S48} {cs : List Value} (h : AtK k48 w x cs 0) : AtK (Kd.int .i64) w x.f6.f0 cs 22 := ((((((h.iso.snd rfl).snd rfl).snd rfl).snd rfl).snd rfl).snd rfl).fst.iso.fst
theorem at48_23 {w : World} {x : S48} {cs : List Value} (h : AtK k48 w x cs 0) : AtK (Kd.slice 25 (Kd.slice 3 (Kd.int .i64))) w x.f6.f1 cs 23 := (((((((h.iso.snd rfl).snd rfl).snd rfl).snd rfl).snd rfl).snd rfl).fst.iso.snd rfl).fst
theorem at48_24 {w : World} {x : S48} {cs : List Value} (h : AtK k48 w x cs 0) : AtK (Kd.slice 25 (Kd.slice 3 (Kd.int .i64))) w x.f6.f2 cs 24 := ((((((((h.iso.snd rfl).snd rfl).snd rfl).snd rfl).snd rfl).snd rfl).fst.iso.snd rfl).snd rfl).fst
theorem at48_25 {w : World} {x : S48} {cs : List Value} (h : AtK k48 w x cs 0) : AtK (Kd.int .i64) w x.f6.f3 cs 25 := (((((((((h.iso.snd rfl).snd rfl).snd rfl).snd rfl).snd rfl).snd rfl).fst.iso.snd rfl).snd rfl).snd rfl).fst
theorem at48_26 {w : World} {x : S48} {cs : List Value} (h : AtK k48 w x cs 0) : AtK (Kd.int .i64) w x.f6.f4 cs 26 := ((((((((((h.iso.snd rfl).snd rfl).snd rfl).snd rfl).snd rfl).snd rfl).fst.iso.snd rfl).snd rfl).snd rfl).snd rfl)
theorem at48_27 {w : World} {x : S48} {cs : List Value} (h : AtK k48 w x cs 0) : AtK (Kd.int .i64) w x.f7.f0 cs 27 := (((((((h.iso.snd rfl).snd rfl).snd rfl).snd rfl).snd rfl).snd rfl).snd rfl).iso.fst
theorem at48_28 {w : World} {x : S48} {cs : List Value} (h : AtK k48 w x cs 0) : AtK (Kd.slice 25 (Kd.slice 3 (Kd.int .i64))) w x.f7.f1 cs 28 := ((((((((h.iso.snd rfl).snd rfl).snd rfl).snd rfl).snd rfl).snd rfl).snd rfl).iso.snd rfl).fst
theorem at48_29 {w : World} {x : S48} {cs : List Value} (h : AtK k48 w x cs 0) : AtK (Kd.slice 25 (Kd.slice 3 (Kd.int .i64))) w x.f7.f2 cs 29 := (((((((((h.iso.snd rfl).snd rfl).snd rfl).snd rfl).snd rfl).snd rfl).snd rfl).iso.snd rfl).snd rfl).fst
theorem at48_30 {w : World} {x : S48} {cs : List Value} (h : AtK k48 w x cs 0) : AtK (Kd.int .i64) w x.f7.f3 cs 30 := ((((((((((h.iso.snd rfl).snd rfl).snd rfl).snd rfl).snd rfl).snd rfl).snd rfl).iso.snd rfl).snd rfl).snd rfl).fst
theorem at48_31 {w : World} {x : S48} {cs : List Value} (h : AtK k48 w x cs 0) : AtK (Kd.int .i64) w x.f7.f4 cs 31 := (((((((((((h.iso.snd rfl).snd rfl).snd rfl).snd rfl).snd rfl).snd rfl).snd rfl).iso.snd rfl).snd rfl).snd rfl).snd rfl)
def spec_LayerOk.g (k : Nat) (x0 : S48) (a1 : Int) : Option Bool := ((spec_l05Width.f a1).bind fun t10 => (if t10 = true then ((spec_l05Width.f (x0.f6.f1.length : Int)).bind fun t14 => (if t14 = true then ((spec_GainOk.f k x0.f0 a1).bind fun t22 => (if t22 = true then ((spec_GainOk.f k x0.f5 a1).bind fun t30 => (if t30 = true then ((spec_l10Matrix.f k x0.f1.f0 x0.f1.f1 x0.f1.f2 x0.f1.f3 x0.f1.f4 a1 a1).bind fun t42 => (if t42 = true then ((spec_l10Matrix.f k x0.f2.f0 x0.f2.f1 x0.f2.f2 x0.f2.f3 x0.f2.f4 a1 a1).bind fun t54 => (if t54 = true then ((spec_l10Matrix.f k x0.f3.f0 x0.f3.f1 x0.f3.f2 x0.f3.f3 x0.f3.f4 a1 a1).bind fun t66 => (if t66 = true then ((spec_l10Matrix.f k x0.f4.f0 x0.f4.f1 x0.f4.f2 x0.f4.f3 x0.f4.f4 a1 a1).bind fun t78 => (if t78 = true then ((spec_l10Matrix.f k x0.f6.f0 x0.f6.f1 x0.f6.f2 x0.f6.f3 x0.f6.f4 a1 (x0.f6.f1.length : Int)).bind fun t86 => (if t86 = true then ((spec_l10Matrix.f k x0.f7.f0 x0.f7.f1 x0.f7.f2 x0.f7.f3 x0.f7.f4 (x0.f6.f1.length : Int) a1).bind fun t98 => (some t98)) else (some false))) else (some false))) else (some false))) else (some false))) else (some false))) else (some false))) else (some false))) else (some false))) else (some false)))
set_option maxHeartbeats 4000000 in
set_option maxRecDepth 20000 in
theorem spec_LayerOk.runs (k : Nat) (cs0 : List Value) (x0 : S48) (a1 : Int) (r : Bool) (w : World) (hk0 : k48.K w x0 cs0) (H : spec_LayerOk.g k x0 a1 = some r) :
    Calls Try.prog 20 #[.agg cs0.toArray, .int .i64 a1] w fun e w' => e = .returned (.bool r) ∧ Below w.heap.size w w' := by
  have el0 : cs0.length = 32 := k48.K_len hk0
  unfold spec_LayerOk.g at H
  have HS : St (fun _ => True) w w [] [(fun W => k48.K W x0 cs0)] [] := St.start (foot_cons (foot_K h48 hk0) foot_nil)
  refine calls_W Try.func20 rfl rfl (Nat.le_of_ble_eq_true rfl) (fun R_ hR_ => ?_)
  refine WC.seq (fun K1 hK1 => ?_)
  refine WC.region ?_
  refine WL.box HS rfl rfl (by decide) rfl rfl rfl (fun b2 w3 hb2 HS => ?_)
  refine as_ ?_
  refine WL.done ?_
  refine WQ.via (fun _ _ h_ => h_) hK1 ?_
  refine WC.seq (fun K4 hK4 => ?_)
  refine WC.region ?_
  refine v_ (Run.fieldAddr rfl rfl Try.underlying48 rfl (by kernel_rfl) rfl) ?_
  refine v_ (Run.fieldAddr rfl rfl Try.underlying36 rfl (by kernel_rfl) rfl) ?_
  obtain ⟨A5, c6, hc7, le8⟩ := (at48_23 (AtK.whole (HS.getO 0 rfl))).slice
  replace HS := HS.deriveO (p := (fun W => (Kd.slice 3 (Kd.int .i64)).C W A5 x0.f6.f1.length x0.f6.f1)) (fun W_ hO_ hN_ => (at48_23 (AtK.whole (AllF.get 0 rfl hO_))).C hc7)
  refine v_ (Run.load rfl rfl Try.underlying23 rfl (box_cell (HS.mu 0 rfl) hc7)) ?_
  refine v_ (Run.len (ts := #[]) rfl Try.underlying23 rfl) ?_
  refine as_ ?_
  refine WL.done ?_
  refine WQ.via (fun _ _ h_ => h_) hK4 ?_
  refine WC.seq (fun K9 hK9 => ?_)
  refine WC.region ?_
  refine mv_ ?_
  obtain ⟨t10, ha11, H⟩ := bind_some H
  refine c_ Try.func61 (spec_l05Width.calls a1 t10 _ ha11) ?_
  rintro _ w12 ⟨rfl, hb⟩
  have hb := hb.below
  replace HS := HS.below hb
  refine ⟨_, rfl, ?_⟩
  clear hb
  refine mv_ ?_
  by_cases c13 : t10 = true
  · rw [if_pos c13] at H
    refine on_ c13 ?_
    refine mv_ ?_
    refine on_ c13 ?_
    obtain ⟨t14, ha15, H⟩ := bind_some H
    refine c_ Try.func61 (spec_l05Width.calls (x0.f6.f1.length : Int) t14 _ ha15) ?_
    rintro _ w16 ⟨rfl, hb⟩
    have hb := hb.below
    replace HS := HS.below hb
    refine ⟨_, rfl, ?_⟩
    clear hb
    refine v_ (Run.pickT rfl rfl c13 rfl) ?_
    refine mv_ ?_
    by_cases c17 : t14 = true
    · rw [if_pos c17] at H
      refine on_ c17 ?_
      refine v_ (Run.fieldAddr rfl rfl Try.underlying48 rfl (by kernel_rfl) rfl) ?_
      refine on_ c17 ?_
      obtain ⟨A18, c19, hc20, le21⟩ := (at48_0 (AtK.whole (HS.getO 1 rfl))).slice
      replace HS := HS.deriveO (p := (fun W => (Kd.int .i64).C W A18 x0.f0.length x0.f0)) (fun W_ hO_ hN_ => (at48_0 (AtK.whole (AllF.get 1 rfl hO_))).C hc20)
      refine v_ (Run.load rfl rfl Try.underlying25 rfl (box_cell (HS.mu 0 rfl) hc20)) ?_
      refine on_ c17 ?_
      refine mv_ ?_
      refine on_ c17 ?_
      obtain ⟨t22, ha23, H⟩ := bind_some H
      refine c_ Try.func62 (spec_GainOk.calls k A18 c19 x0.f0 a1 t22 _ (HS.getO 0 rfl) le21 ha23) ?_
      rintro _ w24 ⟨rfl, hb⟩
      have hb := hb.below
      replace HS := HS.below hb
      refine ⟨_, rfl, ?_⟩
      clear hb
      refine v_ (Run.pickT rfl rfl c17 rfl) ?_
      refine mv_ ?_
      by_cases c25 : t22 = true
      · rw [if_pos c25] at H
        refine on_ c25 ?_
        refine v_ (Run.fieldAddr rfl rfl Try.underlying48 rfl (by kernel_rfl) rfl) ?_
        refine on_ c25 ?_
        obtain ⟨A26, c27, hc28, le29⟩ := (at48_21 (AtK.whole (HS.getO 2 rfl))).slice
        replace HS := HS.deriveO (p := (fun W => (Kd.int .i64).C W A26 x0.f5.length x0.f5)) (fun W_ hO_ hN_ => (at48_21 (AtK.whole (AllF.get 2 rfl hO_))).C hc28)
        refine v_ (Run.load rfl rfl Try.underlying25 rfl (box_cell (HS.mu 0 rfl) hc28)) ?_
        refine on_ c25 ?_
        refine mv_ ?_
        refine on_ c25 ?_
        obtain ⟨t30, ha31, H⟩ := bind_some H
        refine c_ Try.func62 (spec_GainOk.calls k A26 c27 x0.f5 a1 t30 _ (HS.getO 0 rfl) le29 ha31) ?_
        rintro _ w32 ⟨rfl, hb⟩
        have hb := hb.below
        replace HS := HS.below hb
        refine ⟨_, rfl, ?_⟩
        clear hb
        refine v_ (Run.pickT rfl rfl c25 rfl) ?_
        refine mv_ ?_
        by_cases c33 : t30 = true
        · rw [if_pos c33] at H
          refine on_ c33 ?_
          refine v_ (Run.fieldAddr rfl rfl Try.underlying48 rfl (by kernel_rfl) rfl) ?_
          refine on_ c33 ?_
          obtain ⟨A34, c35, hc36, le37⟩ := (at48_2 (AtK.whole (HS.getO 3 rfl))).slice
          replace HS := HS.deriveO (p := (fun W => (Kd.slice 3 (Kd.int .i64)).C W A34 x0.f1.f1.length x0.f1.f1)) (fun W_ hO_ hN_ => (at48_2 (AtK.whole (AllF.get 3 rfl hO_))).C hc36)
          obtain ⟨A38, c39, hc40, le41⟩ := (at48_3 (AtK.whole (HS.getO 4 rfl))).slice
          replace HS := HS.deriveO (p := (fun W => (Kd.slice 3 (Kd.int .i64)).C W A38 x0.f1.f2.length x0.f1.f2)) (fun W_ hO_ hN_ => (at48_3 (AtK.whole (AllF.get 4 rfl hO_))).C hc40)
          refine v_ (Run.loadS (cs := [.int .i64 x0.f1.f0, .slice A34 x0.f1.f1.length c35, .slice A38 x0.f1.f2.length c39, .int .i64 x0.f1.f3, .int .i64 x0.f1.f4]) rfl rfl Try.underlying36 rfl (by kernel_rfl) (box_part (HS.mu 0 rfl) (part_cons (at48_1 (AtK.whole (HS.getO 5 rfl))).int (part_cons hc36 (part_cons hc40 (part_cons (at48_4 (AtK.whole (HS.getO 5 rfl))).int (part_cons (at48_5 (AtK.whole (HS.getO 5 rfl))).int part_nil))))))) ?_
          refine on_ c33 ?_
          refine mv_ ?_
          refine on_ c33 ?_
          refine mv_ ?_
          refine on_ c33 ?_
          obtain ⟨t42, ha43, H⟩ := bind_some H
          refine c_ Try.func63 (spec_l10Matrix.calls k x0.f1.f0 A34 c35 x0.f1.f1 A38 c39 x0.f1.f2 x0.f1.f3 x0.f1.f4 a1 a1 t42 _ (HS.getO 1 rfl) le37 (HS.getO 0 rfl) le41 ha43) ?_
          rintro _ w44 ⟨rfl, hb⟩
          replace HS := HS.below hb
          refine ⟨_, rfl, ?_⟩
          clear hb
          refine v_ (Run.pickT rfl rfl c33 rfl) ?_
          refine mv_ ?_
          by_cases c45 : t42 = true
          · rw [if_pos c45] at H
            refine on_ c45 ?_
            refine v_ (Run.fieldAddr rfl rfl Try.underlying48 rfl (by kernel_rfl) rfl) ?_
            refine on_ c45 ?_
            obtain ⟨A46, c47, hc48, le49⟩ := (at48_7 (AtK.whole (HS.getO 5 rfl))).slice
            replace HS := HS.deriveO (p := (fun W => (Kd.slice 3 (Kd.int .i64)).C W A46 x0.f2.f1.length x0.f2.f1)) (fun W_ hO_ hN_ => (at48_7 (AtK.whole (AllF.get 5 rfl hO_))).C hc48)
            obtain ⟨A50, c51, hc52, le53⟩ := (at48_8 (AtK.whole (HS.getO 6 rfl))).slice
            replace HS := HS.deriveO (p := (fun W => (Kd.slice 3 (Kd.int .i64)).C W A50 x0.f2.f2.length x0.f2.f2)) (fun W_ hO_ hN_ => (at48_8 (AtK.whole (AllF.get 6 rfl hO_))).C hc52)
            refine v_ (Run.loadS (cs := [.int .i64 x0.f2.f0, .slice A46 x0.f2.f1.length c47, .slice A50 x0.f2.f2.length c51, .int .i64 x0.f2.f3, .int .i64 x0.f2.f4]) rfl rfl Try.underlying36 rfl (by kernel_rfl) (box_part (HS.mu 0 rfl) (part_cons (at48_6 (AtK.whole (HS.getO 7 rfl))).int (part_cons hc48 (part_cons hc52 (part_cons (at48_9 (AtK.whole (HS.getO 7 rfl))).int (part_cons (at48_10 (AtK.whole (HS.getO 7 rfl))).int part_nil))))))) ?_
            refine on_ c45 ?_
            refine mv_ ?_
            refine on_ c45 ?_
            refine mv_ ?_
            refine on_ c45 ?_
            obtain ⟨t54, ha55, H⟩ := bind_some H
            refine c_ Try.func63 (spec_l10Matrix.calls k x0.f2.f0 A46 c47 x0.f2.f1 A50 c51 x0.f2.f2 x0.f2.f3 x0.f2.f4 a1 a1 t54 _ (HS.getO 1 rfl) le49 (HS.getO 0 rfl) le53 ha55) ?_
            rintro _ w56 ⟨rfl, hb⟩
            replace HS := HS.below hb
            refine ⟨_, rfl, ?_⟩
            clear hb
            refine v_ (Run.pickT rfl rfl c45 rfl) ?_
            refine mv_ ?_
            by_cases c57 : t54 = true
            · rw [if_pos c57] at H
              refine on_ c57 ?_
              refine v_ (Run.fieldAddr rfl rfl Try.underlying48 rfl (by kernel_rfl) rfl) ?_
              refine on_ c57 ?_
              obtain ⟨A58, c59, hc60, le61⟩ := (at48_12 (AtK.whole (HS.getO 7 rfl))).slice
              replace HS := HS.deriveO (p := (fun W => (Kd.slice 3 (Kd.int .i64)).C W A58 x0.f3.f1.length x0.f3.f1)) (fun W_ hO_ hN_ => (at48_12 (AtK.whole (AllF.get 7 rfl hO_))).C hc60)
              obtain ⟨A62, c63, hc64, le65⟩ := (at48_13 (AtK.whole (HS.getO 8 rfl))).slice
              replace HS := HS.deriveO (p := (fun W => (Kd.slice 3 (Kd.int .i64)).C W A62 x0.f3.f2.length x0.f3.f2)) (fun W_ hO_ hN_ => (at48_13 (AtK.whole (AllF.get 8 rfl hO_))).C hc64)
              refine v_ (Run.loadS (cs := [.int .i64 x0.f3.f0, .slice A58 x0.f3.f1.length c59, .slice A62 x0.f3.f2.length c63, .int .i64 x0.f3.f3, .int .i64 x0.f3.f4]) rfl rfl Try.underlying36 rfl (by kernel_rfl) (box_part (HS.mu 0 rfl) (part_cons (at48_11 (AtK.whole (HS.getO 9 rfl))).int (part_cons hc60 (part_cons hc64 (part_cons (at48_14 (AtK.whole (HS.getO 9 rfl))).int (part_cons (at48_15 (AtK.whole (HS.getO 9 rfl))).int part_nil))))))) ?_
              refine on_ c57 ?_
              refine mv_ ?_
              refine on_ c57 ?_
              refine mv_ ?_
              refine on_ c57 ?_
              obtain ⟨t66, ha67, H⟩ := bind_some H
              refine c_ Try.func63 (spec_l10Matrix.calls k x0.f3.f0 A58 c59 x0.f3.f1 A62 c63 x0.f3.f2 x0.f3.f3 x0.f3.f4 a1 a1 t66 _ (HS.getO 1 rfl) le61 (HS.getO 0 rfl) le65 ha67) ?_
              rintro _ w68 ⟨rfl, hb⟩
              replace HS := HS.below hb
              refine ⟨_, rfl, ?_⟩
              clear hb
              refine v_ (Run.pickT rfl rfl c57 rfl) ?_
              refine mv_ ?_
              by_cases c69 : t66 = true
              · rw [if_pos c69] at H
                refine on_ c69 ?_
                refine v_ (Run.fieldAddr rfl rfl Try.underlying48 rfl (by kernel_rfl) rfl) ?_
                refine on_ c69 ?_
                obtain ⟨A70, c71, hc72, le73⟩ := (at48_17 (AtK.whole (HS.getO 9 rfl))).slice
                replace HS := HS.deriveO (p := (fun W => (Kd.slice 3 (Kd.int .i64)).C W A70 x0.f4.f1.length x0.f4.f1)) (fun W_ hO_ hN_ => (at48_17 (AtK.whole (AllF.get 9 rfl hO_))).C hc72)
                obtain ⟨A74, c75, hc76, le77⟩ := (at48_18 (AtK.whole (HS.getO 10 rfl))).slice
                replace HS := HS.deriveO (p := (fun W => (Kd.slice 3 (Kd.int .i64)).C W A74 x0.f4.f2.length x0.f4.f2)) (fun W_ hO_ hN_ => (at48_18 (AtK.whole (AllF.get 10 rfl hO_))).C hc76)
                refine v_ (Run.loadS (cs := [.int .i64 x0.f4.f0, .slice A70 x0.f4.f1.length c71, .slice A74 x0.f4.f2.length c75, .int .i64 x0.f4.f3, .int .i64 x0.f4.f4]) rfl rfl Try.underlying36 rfl (by kernel_rfl) (box_part (HS.mu 0 rfl) (part_cons (at48_16 (AtK.whole (HS.getO 11 rfl))).int (part_cons hc72 (part_cons hc76 (part_cons (at48_19 (AtK.whole (HS.getO 11 rfl))).int (part_cons (at48_20 (AtK.whole (HS.getO 11 rfl))).int part_nil))))))) ?_
                refine on_ c69 ?_
                refine mv_ ?_
                refine on_ c69 ?_
                refine mv_ ?_
                refine on_ c69 ?_
                obtain ⟨t78, ha79, H⟩ := bind_some H
                refine c_ Try.func63 (spec_l10Matrix.calls k x0.f4.f0 A70 c71 x0.f4.f1 A74 c75 x0.f4.f2 x0.f4.f3 x0.f4.f4 a1 a1 t78 _ (HS.getO 1 rfl) le73 (HS.getO 0 rfl) le77 ha79) ?_
                rintro _ w80 ⟨rfl, hb⟩
                replace HS := HS.below hb
                refine ⟨_, rfl, ?_⟩
                clear hb
                refine v_ (Run.pickT rfl rfl c69 rfl) ?_
                refine mv_ ?_
                by_cases c81 : t78 = true
                · rw [if_pos c81] at H
                  refine on_ c81 ?_
                  refine v_ (Run.fieldAddr rfl rfl Try.underlying48 rfl (by kernel_rfl) rfl) ?_
                  refine on_ c81 ?_
                  obtain ⟨A82, c83, hc84, le85⟩ := (at48_24 (AtK.whole (HS.getO 11 rfl))).slice
                  replace HS := HS.deriveO (p := (fun W => (Kd.slice 3 (Kd.int .i64)).C W A82 x0.f6.f2.length x0.f6.f2)) (fun W_ hO_ hN_ => (at48_24 (AtK.whole (AllF.get 11 rfl hO_))).C hc84)
                  refine v_ (Run.loadS (cs := [.int .i64 x0.f6.f0, .slice A5 x0.f6.f1.length c6, .slice A82 x0.f6.f2.length c83, .int .i64 x0.f6.f3, .int .i64 x0.f6.f4]) rfl rfl Try.underlying36 rfl (by kernel_rfl) (box_part (HS.mu 0 rfl) (part_cons (at48_22 (AtK.whole (HS.getO 12 rfl))).int (part_cons hc7 (part_cons hc84 (part_cons (at48_25 (AtK.whole (HS.getO 12 rfl))).int (part_cons (at48_26 (AtK.whole (HS.getO 12 rfl))).int part_nil))))))) ?_
                  refine on_ c81 ?_
                  refine mv_ ?_
                  refine on_ c81 ?_
                  refine mv_ ?_
                  refine on_ c81 ?_
                  obtain ⟨t86, ha87, H⟩ := bind_some H
                  refine c_ Try.func63 (spec_l10Matrix.calls k x0.f6.f0 A5 c6 x0.f6.f1 A82 c83 x0.f6.f2 x0.f6.f3 x0.f6.f4 a1 (x0.f6.f1.length : Int) t86 _ (HS.getO 11 rfl) le8 (HS.getO 0 rfl) le85 ha87) ?_
                  rintro _ w88 ⟨rfl, hb⟩
                  replace HS := HS.below hb
                  refine ⟨_, rfl, ?_⟩
                  clear hb
                  refine v_ (Run.pickT rfl rfl c81 rfl) ?_
                  refine mv_ ?_
                  by_cases c89 : t86 = true
                  · rw [if_pos c89] at H
                    refine on_ c89 ?_
                    refine v_ (Run.fieldAddr rfl rfl Try.underlying48 rfl (by kernel_rfl) rfl) ?_
                    refine on_ c89 ?_
                    obtain ⟨A90, c91, hc92, le93⟩ := (at48_28 (AtK.whole (HS.getO 12 rfl))).slice
                    replace HS := HS.deriveO (p := (fun W => (Kd.slice 3 (Kd.int .i64)).C W A90 x0.f7.f1.length x0.f7.f1)) (fun W_ hO_ hN_ => (at48_28 (AtK.whole (AllF.get 12 rfl hO_))).C hc92)
                    obtain ⟨A94, c95, hc96, le97⟩ := (at48_29 (AtK.whole (HS.getO 13 rfl))).slice
                    replace HS := HS.deriveO (p := (fun W => (Kd.slice 3 (Kd.int .i64)).C W A94 x0.f7.f2.length x0.f7.f2)) (fun W_ hO_ hN_ => (at48_29 (AtK.whole (AllF.get 13 rfl hO_))).C hc96)
                    refine v_ (Run.loadS (cs := [.int .i64 x0.f7.f0, .slice A90 x0.f7.f1.length c91, .slice A94 x0.f7.f2.length c95, .int .i64 x0.f7.f3, .int .i64 x0.f7.f4]) rfl rfl Try.underlying36 rfl (by kernel_rfl) (box_part (HS.mu 0 rfl) (part_cons (at48_27 (AtK.whole (HS.getO 14 rfl))).int (part_cons hc92 (part_cons hc96 (part_cons (at48_30 (AtK.whole (HS.getO 14 rfl))).int (part_cons (at48_31 (AtK.whole (HS.getO 14 rfl))).int part_nil))))))) ?_
                    refine on_ c89 ?_
                    refine mv_ ?_
                    refine on_ c89 ?_
                    refine mv_ ?_
                    refine on_ c89 ?_
                    obtain ⟨t98, ha99, H⟩ := bind_some H
                    refine c_ Try.func63 (spec_l10Matrix.calls k x0.f7.f0 A90 c91 x0.f7.f1 A94 c95 x0.f7.f2 x0.f7.f3 x0.f7.f4 (x0.f6.f1.length : Int) a1 t98 _ (HS.getO 1 rfl) le93 (HS.getO 0 rfl) le97 ha99) ?_
                    rintro _ w100 ⟨rfl, hb⟩
                    replace HS := HS.below hb
                    refine ⟨_, rfl, ?_⟩
                    clear hb
                    refine v_ (Run.pickT rfl rfl c89 rfl) ?_
                    refine as_ ?_
                    refine WL.done ?_
                    refine WQ.via (fun _ _ h_ => h_) hK9 ?_
                    refine WC.ret ?_
                    obtain rfl := Option.some.inj H
                    refine WQ.fin (e' := .ret) (fn := Try.f20) (fun _ _ h_ => h_) (WQ.ret1 rfl rfl ?_)
                    exact hR_ _ _ ⟨rfl, HS.b⟩
                  · rw [if_neg c89] at H
                    refine off_ (c' := false) (Bool.eq_false_iff.mpr c89) ?_
                    refine WL.know 63 (Bool.eq_false_iff.mpr c89) ?_
                    refine fast_ ?_
                    refine WQ.via (fun _ _ h_ => h_) hK9 ?_
                    refine WC.ret ?_
                    obtain rfl := Option.some.inj H
                    refine WQ.fin (e' := .ret) (fn := Try.f20) (fun _ _ h_ => h_) (WQ.ret1 rfl rfl ?_)
                    exact hR_ _ _ ⟨rfl, HS.b⟩
                · rw [if_neg c81] at H
                  refine off_ (c' := false) (Bool.eq_false_iff.mpr c81) ?_
                  refine WL.know 56 (Bool.eq_false_iff.mpr c81) ?_
                  refine fast_ ?_
                  refine WQ.via (fun _ _ h_ => h_) hK9 ?_
                  refine WC.ret ?_
                  obtain rfl := Option.some.inj H
                  refine WQ.fin (e' := .ret) (fn := Try.f20) (fun _ _ h_ => h_) (WQ.ret1 rfl rfl ?_)
                  exact hR_ _ _ ⟨rfl, HS.b⟩
              · rw [if_neg c69] at H
                refine off_ (c' := false) (Bool.eq_false_iff.mpr c69) ?_
                refine WL.know 49 (Bool.eq_false_iff.mpr c69) ?_
                refine fast_ ?_
                refine WQ.via (fun _ _ h_ => h_) hK9 ?_
                refine WC.ret ?_
                obtain rfl := Option.some.inj H
                refine WQ.fin (e' := .ret) (fn := Try.f20) (fun _ _ h_ => h_) (WQ.ret1 rfl rfl ?_)
                exact hR_ _ _ ⟨rfl, HS.b⟩
            · rw [if_neg c57] at H
              refine off_ (c' := false) (Bool.eq_false_iff.mpr c57) ?_
              refine WL.know 42 (Bool.eq_false_iff.mpr c57) ?_
              refine fast_ ?_
              refine WQ.via (fun _ _ h_ => h_) hK9 ?_
              refine WC.ret ?_
              obtain rfl := Option.some.inj H
              refine WQ.fin (e' := .ret) (fn := Try.f20) (fun _ _ h_ => h_) (WQ.ret1 rfl rfl ?_)
              exact hR_ _ _ ⟨rfl, HS.b⟩
          · rw [if_neg c45] at H
            refine off_ (c' := false) (Bool.eq_false_iff.mpr c45) ?_
            refine WL.know 35 (Bool.eq_false_iff.mpr c45) ?_
            refine fast_ ?_
            refine WQ.via (fun _ _ h_ => h_) hK9 ?_
            refine WC.ret ?_
            obtain rfl := Option.some.inj H
            refine WQ.fin (e' := .ret) (fn := Try.f20) (fun _ _ h_ => h_) (WQ.ret1 rfl rfl ?_)
            exact hR_ _ _ ⟨rfl, HS.b⟩
        · rw [if_neg c33] at H
          refine off_ (c' := false) (Bool.eq_false_iff.mpr c33) ?_
          refine WL.know 28 (Bool.eq_false_iff.mpr c33) ?_
          refine fast_ ?_
          refine WQ.via (fun _ _ h_ => h_) hK9 ?_
          refine WC.ret ?_
          obtain rfl := Option.some.inj H
          refine WQ.fin (e' := .ret) (fn := Try.f20) (fun _ _ h_ => h_) (WQ.ret1 rfl rfl ?_)
          exact hR_ _ _ ⟨rfl, HS.b⟩
      · rw [if_neg c25] at H
        refine off_ (c' := false) (Bool.eq_false_iff.mpr c25) ?_
        refine WL.know 22 (Bool.eq_false_iff.mpr c25) ?_
        refine fast_ ?_
        refine WQ.via (fun _ _ h_ => h_) hK9 ?_
        refine WC.ret ?_
        obtain rfl := Option.some.inj H
        refine WQ.fin (e' := .ret) (fn := Try.f20) (fun _ _ h_ => h_) (WQ.ret1 rfl rfl ?_)
        exact hR_ _ _ ⟨rfl, HS.b⟩
    · rw [if_neg c17] at H
      refine off_ (c' := false) (Bool.eq_false_iff.mpr c17) ?_
      refine WL.know 16 (Bool.eq_false_iff.mpr c17) ?_
      refine fast_ ?_
      refine WQ.via (fun _ _ h_ => h_) hK9 ?_
      refine WC.ret ?_
      obtain rfl := Option.some.inj H
      refine WQ.fin (e' := .ret) (fn := Try.f20) (fun _ _ h_ => h_) (WQ.ret1 rfl rfl ?_)
      exact hR_ _ _ ⟨rfl, HS.b⟩
  · rw [if_neg c13] at H
    refine off_ (c' := false) (Bool.eq_false_iff.mpr c13) ?_
    refine WL.know 12 (Bool.eq_false_iff.mpr c13) ?_
    refine fast_ ?_
    refine WQ.via (fun _ _ h_ => h_) hK9 ?_
    refine WC.ret ?_
    obtain rfl := Option.some.inj H
    refine WQ.fin (e' := .ret) (fn := Try.f20) (fun _ _ h_ => h_) (WQ.ret1 rfl rfl ?_)
    exact hR_ _ _ ⟨rfl, HS.b⟩
def impl_LayerOk.b0 (x0 : S48) (a1 : Int) (rec_ : Int → Option (Bool ⊕ Int)) (k99 : Nat) (i74 : Int) : Option (Bool ⊕ Int) := (if i74 < (4 : Int) then (if 0 ≤ i74 ∧ i74 < (4 : Int) then ((impl_withinBudget.f k99 ((([x0.f1, x0.f2, x0.f3, x0.f4]).getD i74.toNat o36).f0) ((([x0.f1, x0.f2, x0.f3, x0.f4]).getD i74.toNat o36).f1) ((([x0.f1, x0.f2, x0.f3, x0.f4]).getD i74.toNat o36).f2) ((([x0.f1, x0.f2, x0.f3, x0.f4]).getD i74.toNat o36).f3) ((([x0.f1, x0.f2, x0.f3, x0.f4]).getD i74.toNat o36).f4) a1 a1).bind fun t122 => (if t122 = true then (rec_ (wrap64 (i74 + 1))) else (some (Sum.inl false)))) else none) else (some (Sum.inr i74)))
def impl_LayerOk.l0 (x0 : S48) (a1 : Int) : Nat → Int → Option (Bool ⊕ Int)
  | 0, _ => none
  | k + 1, i74 => impl_LayerOk.b0 x0 a1 (impl_LayerOk.l0 x0 a1 k) k i74
def impl_LayerOk.g (k : Nat) (x0 : S48) (a1 : Int) : Option Bool := ((impl_GainOk.f x0.f0 a1).bind fun t15 => (if t15 = true then ((impl_GainOk.f x0.f5 a1).bind fun t23 => (if t23 = true then ((impl_isWidth.f (x0.f6.f1.length : Int)).bind fun t27 => (if t27 = true then ((impl_LayerOk.l0 x0 a1 k 0).bind (fun o97 => match o97 with | .inl r_ => some r_ | .inr i74 => ((impl_withinBudget.f k x0.f6.f0 x0.f6.f1 x0.f6.f2 x0.f6.f3 x0.f6.f4 a1 (x0.f6.f1.length : Int)).bind fun t82 => (if t82 = true then ((impl_withinBudget.f k x0.f7.f0 x0.f7.f1 x0.f7.f2 x0.f7.f3 x0.f7.f4 (x0.f6.f1.length : Int) a1).bind fun t94 => (some t94)) else (some false))))) else (some false))) else (some false))) else (some false)))
set_option maxHeartbeats 4000000 in
set_option maxRecDepth 20000 in
theorem impl_LayerOk.runs (k : Nat) (cs0 : List Value) (x0 : S48) (a1 : Int) (r : Bool) (w : World) (hk0 : k48.K w x0 cs0) (H : impl_LayerOk.g k x0 a1 = some r) :
    Calls Try.prog 22 #[.agg cs0.toArray, .int .i64 a1] w fun e w' => e = .returned (.bool r) ∧ Below w.heap.size w w' := by
  have el0 : cs0.length = 32 := k48.K_len hk0
  unfold impl_LayerOk.g at H
  have HS : St (fun _ => True) w w [] [(fun W => k48.K W x0 cs0)] [] := St.start (foot_cons (foot_K h48 hk0) foot_nil)
  refine calls_W Try.func22 rfl rfl (Nat.le_of_ble_eq_true rfl) (fun R_ hR_ => ?_)
  refine WC.seq (fun K1 hK1 => ?_)
  refine WC.region ?_
  refine WL.box HS rfl rfl (by decide) rfl rfl rfl (fun b2 w3 hb2 HS => ?_)
  refine as_ ?_
  refine WL.done ?_
  refine WQ.via (fun _ _ h_ => h_) hK1 ?_
  refine WC.seq (fun K4 hK4 => ?_)
  refine WC.region ?_
  refine v_ (Run.fieldAddr rfl rfl Try.underlying48 rfl (by kernel_rfl) rfl) ?_
  refine v_ (Run.fieldAddr rfl rfl Try.underlying36 rfl (by kernel_rfl) rfl) ?_
  obtain ⟨A5, c6, hc7, le8⟩ := (at48_23 (AtK.whole (HS.getO 0 rfl))).slice
  replace HS := HS.deriveO (p := (fun W => (Kd.slice 3 (Kd.int .i64)).C W A5 x0.f6.f1.length x0.f6.f1)) (fun W_ hO_ hN_ => (at48_23 (AtK.whole (AllF.get 0 rfl hO_))).C hc7)
  refine v_ (Run.load rfl rfl Try.underlying23 rfl (box_cell (HS.mu 0 rfl) hc7)) ?_
  refine v_ (Run.len (ts := #[]) rfl Try.underlying23 rfl) ?_
  refine as_ ?_
  refine WL.done ?_
  refine WQ.via (fun _ _ h_ => h_) hK4 ?_
  refine WC.seq (fun K9 hK9 => ?_)
  refine WC.seq (fun K10 hK10 => ?_)
  refine WC.region ?_
  refine v_ (Run.fieldAddr rfl rfl Try.underlying48 rfl (by kernel_rfl) rfl) ?_
  obtain ⟨A11, c12, hc13, le14⟩ := (at48_0 (AtK.whole (HS.getO 1 rfl))).slice
  replace HS := HS.deriveO (p := (fun W => (Kd.int .i64).C W A11 x0.f0.length x0.f0)) (fun W_ hO_ hN_ => (at48_0 (AtK.whole (AllF.get 1 rfl hO_))).C hc13)
  refine v_ (Run.load rfl rfl Try.underlying25 rfl (box_cell (HS.mu 0 rfl) hc13)) ?_
  refine mv_ ?_
  obtain ⟨t15, ha16, H⟩ := bind_some H
  refine c_ Try.func28 (impl_GainOk.calls A11 c12 x0.f0 a1 t15 _ (HS.getO 0 rfl) le14 ha16) ?_
  rintro _ w17 ⟨rfl, hb⟩
  replace HS := HS.below hb
  refine ⟨_, rfl, ?_⟩
  clear hb
  refine v_ (Run.not rfl rfl) ?_
  refine mv_ ?_
  by_cases c18 : t15 = true
  · rw [if_pos c18] at H
    refine on_ (congrArg (fun b_ => !b_) c18) ?_
    refine v_ (Run.fieldAddr rfl rfl Try.underlying48 rfl (by kernel_rfl) rfl) ?_
    refine on_ (congrArg (fun b_ => !b_) c18) ?_
    obtain ⟨A19, c20, hc21, le22⟩ := (at48_21 (AtK.whole (HS.getO 2 rfl))).slice
    replace HS := HS.deriveO (p := (fun W => (Kd.int .i64).C W A19 x0.f5.length x0.f5)) (fun W_ hO_ hN_ => (at48_21 (AtK.whole (AllF.get 2 rfl hO_))).C hc21)
    refine v_ (Run.load rfl rfl Try.underlying25 rfl (box_cell (HS.mu 0 rfl) hc21)) ?_
    refine on_ (congrArg (fun b_ => !b_) c18) ?_
    refine mv_ ?_
    refine on_ (congrArg (fun b_ => !b_) c18) ?_
    obtain ⟨t23, ha24, H⟩ := bind_some H
    refine c_ Try.func28 (impl_GainOk.calls A19 c20 x0.f5 a1 t23 _ (HS.getO 0 rfl) le22 ha24) ?_
    rintro _ w25 ⟨rfl, hb⟩
    replace HS := HS.below hb
    refine ⟨_, rfl, ?_⟩
    clear hb
    refine on_ (congrArg (fun b_ => !b_) c18) ?_
    refine v_ (Run.not rfl rfl) ?_
    refine v_ (Run.pickF rfl rfl (congrArg (fun b_ => !b_) c18) rfl) ?_
    refine mv_ ?_
    by_cases c26 : t23 = true
    · rw [if_pos c26] at H
      refine on_ (congrArg (fun b_ => !b_) c26) ?_
      refine mv_ ?_
      refine on_ (congrArg (fun b_ => !b_) c26) ?_
      obtain ⟨t27, ha28, H⟩ := bind_some H
      refine c_ Try.func64 (impl_isWidth.calls (x0.f6.f1.length : Int) t27 _ ha28) ?_
      rintro _ w29 ⟨rfl, hb⟩
      have hb := hb.below
      replace HS := HS.below hb
      refine ⟨_, rfl, ?_⟩
      clear hb
      refine on_ (congrArg (fun b_ => !b_) c26) ?_
      refine v_ (Run.not rfl rfl) ?_
      refine v_ (Run.pickF rfl rfl (congrArg (fun b_ => !b_) c26) rfl) ?_
      refine WL.done ?_
      refine WQ.via (fun _ _ h_ => h_) hK10 ?_
      by_cases c30 : t27 = true
      · rw [if_pos c30] at H
        refine WC.no rfl (congrArg (fun b_ => !b_) c30) ?_
        refine WC.skip ?_
        refine WQ.via (fun _ _ h_ => h_) hK9 ?_
        refine WC.seq (fun K31 hK31 => ?_)
        refine WC.seq (fun K32 hK32 => ?_)
        refine WC.region ?_
        refine v_ (Run.fieldAddr rfl rfl Try.underlying48 rfl (by kernel_rfl) rfl) ?_
        obtain ⟨A33, c34, hc35, le36⟩ := (at48_2 (AtK.whole (HS.getO 3 rfl))).slice
        replace HS := HS.deriveO (p := (fun W => (Kd.slice 3 (Kd.int .i64)).C W A33 x0.f1.f1.length x0.f1.f1)) (fun W_ hO_ hN_ => (at48_2 (AtK.whole (AllF.get 3 rfl hO_))).C hc35)
        obtain ⟨A37, c38, hc39, le40⟩ := (at48_3 (AtK.whole (HS.getO 4 rfl))).slice
        replace HS := HS.deriveO (p := (fun W => (Kd.slice 3 (Kd.int .i64)).C W A37 x0.f1.f2.length x0.f1.f2)) (fun W_ hO_ hN_ => (at48_3 (AtK.whole (AllF.get 4 rfl hO_))).C hc39)
        refine v_ (Run.loadS (cs := [.int .i64 x0.f1.f0, .slice A33 x0.f1.f1.length c34, .slice A37 x0.f1.f2.length c38, .int .i64 x0.f1.f3, .int .i64 x0.f1.f4]) rfl rfl Try.underlying36 rfl (by kernel_rfl) (box_part (HS.mu 0 rfl) (part_cons (at48_1 (AtK.whole (HS.getO 5 rfl))).int (part_cons hc35 (part_cons hc39 (part_cons (at48_4 (AtK.whole (HS.getO 5 rfl))).int (part_cons (at48_5 (AtK.whole (HS.getO 5 rfl))).int part_nil))))))) ?_
        refine v_ (Run.fieldAddr rfl rfl Try.underlying48 rfl (by kernel_rfl) rfl) ?_
        obtain ⟨A41, c42, hc43, le44⟩ := (at48_7 (AtK.whole (HS.getO 5 rfl))).slice
        replace HS := HS.deriveO (p := (fun W => (Kd.slice 3 (Kd.int .i64)).C W A41 x0.f2.f1.length x0.f2.f1)) (fun W_ hO_ hN_ => (at48_7 (AtK.whole (AllF.get 5 rfl hO_))).C hc43)
        obtain ⟨A45, c46, hc47, le48⟩ := (at48_8 (AtK.whole (HS.getO 6 rfl))).slice
        replace HS := HS.deriveO (p := (fun W => (Kd.slice 3 (Kd.int .i64)).C W A45 x0.f2.f2.length x0.f2.f2)) (fun W_ hO_ hN_ => (at48_8 (AtK.whole (AllF.get 6 rfl hO_))).C hc47)
        refine v_ (Run.loadS (cs := [.int .i64 x0.f2.f0, .slice A41 x0.f2.f1.length c42, .slice A45 x0.f2.f2.length c46, .int .i64 x0.f2.f3, .int .i64 x0.f2.f4]) rfl rfl Try.underlying36 rfl (by kernel_rfl) (box_part (HS.mu 0 rfl) (part_cons (at48_6 (AtK.whole (HS.getO 7 rfl))).int (part_cons hc43 (part_cons hc47 (part_cons (at48_9 (AtK.whole (HS.getO 7 rfl))).int (part_cons (at48_10 (AtK.whole (HS.getO 7 rfl))).int part_nil))))))) ?_
        refine v_ (Run.fieldAddr rfl rfl Try.underlying48 rfl (by kernel_rfl) rfl) ?_
        obtain ⟨A49, c50, hc51, le52⟩ := (at48_12 (AtK.whole (HS.getO 7 rfl))).slice
        replace HS := HS.deriveO (p := (fun W => (Kd.slice 3 (Kd.int .i64)).C W A49 x0.f3.f1.length x0.f3.f1)) (fun W_ hO_ hN_ => (at48_12 (AtK.whole (AllF.get 7 rfl hO_))).C hc51)
        obtain ⟨A53, c54, hc55, le56⟩ := (at48_13 (AtK.whole (HS.getO 8 rfl))).slice
        replace HS := HS.deriveO (p := (fun W => (Kd.slice 3 (Kd.int .i64)).C W A53 x0.f3.f2.length x0.f3.f2)) (fun W_ hO_ hN_ => (at48_13 (AtK.whole (AllF.get 8 rfl hO_))).C hc55)
        refine v_ (Run.loadS (cs := [.int .i64 x0.f3.f0, .slice A49 x0.f3.f1.length c50, .slice A53 x0.f3.f2.length c54, .int .i64 x0.f3.f3, .int .i64 x0.f3.f4]) rfl rfl Try.underlying36 rfl (by kernel_rfl) (box_part (HS.mu 0 rfl) (part_cons (at48_11 (AtK.whole (HS.getO 9 rfl))).int (part_cons hc51 (part_cons hc55 (part_cons (at48_14 (AtK.whole (HS.getO 9 rfl))).int (part_cons (at48_15 (AtK.whole (HS.getO 9 rfl))).int part_nil))))))) ?_
        refine v_ (Run.fieldAddr rfl rfl Try.underlying48 rfl (by kernel_rfl) rfl) ?_
        obtain ⟨A57, c58, hc59, le60⟩ := (at48_17 (AtK.whole (HS.getO 9 rfl))).slice
        replace HS := HS.deriveO (p := (fun W => (Kd.slice 3 (Kd.int .i64)).C W A57 x0.f4.f1.length x0.f4.f1)) (fun W_ hO_ hN_ => (at48_17 (AtK.whole (AllF.get 9 rfl hO_))).C hc59)
        obtain ⟨A61, c62, hc63, le64⟩ := (at48_18 (AtK.whole (HS.getO 10 rfl))).slice
        replace HS := HS.deriveO (p := (fun W => (Kd.slice 3 (Kd.int .i64)).C W A61 x0.f4.f2.length x0.f4.f2)) (fun W_ hO_ hN_ => (at48_18 (AtK.whole (AllF.get 10 rfl hO_))).C hc63)
        refine v_ (Run.loadS (cs := [.int .i64 x0.f4.f0, .slice A57 x0.f4.f1.length c58, .slice A61 x0.f4.f2.length c62, .int .i64 x0.f4.f3, .int .i64 x0.f4.f4]) rfl rfl Try.underlying36 rfl (by kernel_rfl) (box_part (HS.mu 0 rfl) (part_cons (at48_16 (AtK.whole (HS.getO 11 rfl))).int (part_cons hc59 (part_cons hc63 (part_cons (at48_19 (AtK.whole (HS.getO 11 rfl))).int (part_cons (at48_20 (AtK.whole (HS.getO 11 rfl))).int part_nil))))))) ?_
        refine WL.litN HS (sz := 5) (z := (.agg #[.int .i64 0, .slice none 0 0, .slice none 0 0, .int .i64 0, .int .i64 0])) rfl rfl (by decide) rfl [[.int .i64 x0.f1.f0, .slice A33 x0.f1.f1.length c34, .slice A37 x0.f1.f2.length c38, .int .i64 x0.f1.f3, .int .i64 x0.f1.f4], [.int .i64 x0.f2.f0, .slice A41 x0.f2.f1.length c42, .slice A45 x0.f2.f2.length c46, .int .i64 x0.f2.f3, .int .i64 x0.f2.f4], [.int .i64 x0.f3.f0, .slice A49 x0.f3.f1.length c50, .slice A53 x0.f3.f2.length c54, .int .i64 x0.f3.f3, .int .i64 x0.f3.f4], [.int .i64 x0.f4.f0, .slice A57 x0.f4.f1.length c58, .slice A61 x0.f4.f2.length c62, .int .i64 x0.f4.f3, .int .i64 x0.f4.f4]] ⟨⟨rfl, _, rfl, rfl, rfl⟩, ⟨⟨rfl, _, rfl, rfl, rfl⟩, ⟨⟨rfl, _, rfl, rfl, rfl⟩, ⟨⟨rfl, _, rfl, rfl, rfl⟩, trivial⟩⟩⟩⟩ rfl Try.underlying87 (by kernel_rfl) (by decide) (by decide) (fun v65 w66 HS => ?_)
        replace HS := HS.deriveO (p := (fun W => Reps (k36.K W) k36.sz [x0.f1, x0.f2, x0.f3, x0.f4] (List.flatten [[.int .i64 x0.f1.f0, .slice A33 x0.f1.f1.length c34, .slice A37 x0.f1.f2.length c38, .int .i64 x0.f1.f3, .int .i64 x0.f1.f4], [.int .i64 x0.f2.f0, .slice A41 x0.f2.f1.length c42, .slice A45 x0.f2.f2.length c46, .int .i64 x0.f2.f3, .int .i64 x0.f2.f4], [.int .i64 x0.f3.f0, .slice A49 x0.f3.f1.length c50, .slice A53 x0.f3.f2.length c54, .int .i64 x0.f3.f3, .int .i64 x0.f3.f4], [.int .i64 x0.f4.f0, .slice A57 x0.f4.f1.length c58, .slice A61 x0.f4.f2.length c62, .int .i64 x0.f4.f3, .int .i64 x0.f4.f4]]))) (fun W_ hO_ hN_ => reps_lit ⟨(k36_mk _ x0.f1 (le36) (AllF.get 7 rfl hO_) (le40) (AllF.get 6 rfl hO_)), ⟨(k36_mk _ x0.f2 (le44) (AllF.get 5 rfl hO_) (le48) (AllF.get 4 rfl hO_)), ⟨(k36_mk _ x0.f3 (le52) (AllF.get 3 rfl hO_) (le56) (AllF.get 2 rfl hO_)), ⟨(k36_mk _ x0.f4 (le60) (AllF.get 1 rfl hO_) (le64) (AllF.get 0 rfl hO_)), trivial⟩⟩⟩⟩)
        obtain ⟨A67, c68, rfl⟩ := row_slice (HS.mu 0 rfl)
        refine v_ (Run.len (ts := #[]) rfl Try.underlying87 rfl) ?_
        refine mv_ ?_
        refine WL.done ?_
        refine WQ.via (fun _ _ h_ => h_) hK32 ?_
        refine WC.block ?_
        have le69 := row_le (HS.mu 0 rfl)
        replace HS := HS.freezeO 0 (p := (fun W => k36.C W A67 4 ([x0.f1, x0.f2, x0.f3, x0.f4]))) rfl (fun W_ hm_ h_ => row_C (by simp) hm_ (AllF.get 0 rfl h_))
        obtain ⟨G70, hG71, o72, H, Ho73⟩ := open_G H
        have X75 : ∀ E_ W_, (∃ (i74 : Int), E_ = [(1, .int .i64 a1), (2, .pointer (some ⟨b2, 0, none⟩)), (5, .int .i64 (x0.f6.f1.length : Int)), (37, .slice A67 4 c68), (38, .int .i64 (4 : Int)), (39, .int .i64 i74)] ∧ G70 (Sum.inr i74) = some r ∧ St (fun _ => True) w W_ [boxM b2 cs0.toArray 48] [(fun W => k36.C W A67 4 ([x0.f1, x0.f2, x0.f3, x0.f4])), (fun W => (Kd.slice 3 (Kd.int .i64)).C W A61 x0.f4.f2.length x0.f4.f2), (fun W => (Kd.slice 3 (Kd.int .i64)).C W A57 x0.f4.f1.length x0.f4.f1), (fun W => (Kd.slice 3 (Kd.int .i64)).C W A53 x0.f3.f2.length x0.f3.f2), (fun W => (Kd.slice 3 (Kd.int .i64)).C W A49 x0.f3.f1.length x0.f3.f1), (fun W => (Kd.slice 3 (Kd.int .i64)).C W A45 x0.f2.f2.length x0.f2.f2), (fun W => (Kd.slice 3 (Kd.int .i64)).C W A41 x0.f2.f1.length x0.f2.f1), (fun W => (Kd.slice 3 (Kd.int .i64)).C W A37 x0.f1.f2.length x0.f1.f2), (fun W => (Kd.slice 3 (Kd.int .i64)).C W A33 x0.f1.f1.length x0.f1.f1), (fun W => (Kd.int .i64).C W A19 x0.f5.length x0.f5), (fun W => (Kd.int .i64).C W A11 x0.f0.length x0.f0), (fun W => (Kd.slice 3 (Kd.int .i64)).C W A5 x0.f6.f1.length x0.f6.f1), (fun W => k48.K W x0 cs0)] []) → ∀ a, Fits a 61 E_ → K31 a W_ := by
          rintro E_ w76 ⟨i74, rfl, H, HS⟩
          rw [hG71] at H
          (try dsimp only at H)
          refine hK31 _ _ ?_
          refine WC.seq (fun K77 hK77 => ?_)
          refine WC.region ?_
          refine v_ (Run.fieldAddr rfl rfl Try.underlying48 rfl (by kernel_rfl) rfl) ?_
          obtain ⟨A78, c79, hc80, le81⟩ := (at48_24 (AtK.whole (HS.getO 12 rfl))).slice
          replace HS := HS.deriveO (p := (fun W => (Kd.slice 3 (Kd.int .i64)).C W A78 x0.f6.f2.length x0.f6.f2)) (fun W_ hO_ hN_ => (at48_24 (AtK.whole (AllF.get 12 rfl hO_))).C hc80)
          refine v_ (Run.loadS (cs := [.int .i64 x0.f6.f0, .slice A5 x0.f6.f1.length c6, .slice A78 x0.f6.f2.length c79, .int .i64 x0.f6.f3, .int .i64 x0.f6.f4]) rfl rfl Try.underlying36 rfl (by kernel_rfl) (box_part (HS.mu 0 rfl) (part_cons (at48_22 (AtK.whole (HS.getO 13 rfl))).int (part_cons hc7 (part_cons hc80 (part_cons (at48_25 (AtK.whole (HS.getO 13 rfl))).int (part_cons (at48_26 (AtK.whole (HS.getO 13 rfl))).int part_nil))))))) ?_
          refine mv_ ?_
          refine mv_ ?_
          obtain ⟨t82, ha83, H⟩ := bind_some H
          refine c_ Try.func65 (impl_withinBudget.calls k x0.f6.f0 A5 c6 x0.f6.f1 A78 c79 x0.f6.f2 x0.f6.f3 x0.f6.f4 a1 (x0.f6.f1.length : Int) t82 _ (HS.getO 12 rfl) le8 (HS.getO 0 rfl) le81 ha83) ?_
          rintro _ w84 ⟨rfl, hb⟩
          replace HS := HS.below hb
          refine ⟨_, rfl, ?_⟩
          clear hb
          refine mv_ ?_
          by_cases c85 : t82 = true
          · rw [if_pos c85] at H
            refine on_ c85 ?_
            refine v_ (Run.fieldAddr rfl rfl Try.underlying48 rfl (by kernel_rfl) rfl) ?_
            refine on_ c85 ?_
            obtain ⟨A86, c87, hc88, le89⟩ := (at48_28 (AtK.whole (HS.getO 13 rfl))).slice
            replace HS := HS.deriveO (p := (fun W => (Kd.slice 3 (Kd.int .i64)).C W A86 x0.f7.f1.length x0.f7.f1)) (fun W_ hO_ hN_ => (at48_28 (AtK.whole (AllF.get 13 rfl hO_))).C hc88)
            obtain ⟨A90, c91, hc92, le93⟩ := (at48_29 (AtK.whole (HS.getO 14 rfl))).slice
            replace HS := HS.deriveO (p := (fun W => (Kd.slice 3 (Kd.int .i64)).C W A90 x0.f7.f2.length x0.f7.f2)) (fun W_ hO_ hN_ => (at48_29 (AtK.whole (AllF.get 14 rfl hO_))).C hc92)
            refine v_ (Run.loadS (cs := [.int .i64 x0.f7.f0, .slice A86 x0.f7.f1.length c87, .slice A90 x0.f7.f2.length c91, .int .i64 x0.f7.f3, .int .i64 x0.f7.f4]) rfl rfl Try.underlying36 rfl (by kernel_rfl) (box_part (HS.mu 0 rfl) (part_cons (at48_27 (AtK.whole (HS.getO 15 rfl))).int (part_cons hc88 (part_cons hc92 (part_cons (at48_30 (AtK.whole (HS.getO 15 rfl))).int (part_cons (at48_31 (AtK.whole (HS.getO 15 rfl))).int part_nil))))))) ?_
            refine on_ c85 ?_
            refine mv_ ?_
            refine on_ c85 ?_
            refine mv_ ?_
            refine on_ c85 ?_
            obtain ⟨t94, ha95, H⟩ := bind_some H
            refine c_ Try.func65 (impl_withinBudget.calls k x0.f7.f0 A86 c87 x0.f7.f1 A90 c91 x0.f7.f2 x0.f7.f3 x0.f7.f4 (x0.f6.f1.length : Int) a1 t94 _ (HS.getO 1 rfl) le89 (HS.getO 0 rfl) le93 ha95) ?_
            rintro _ w96 ⟨rfl, hb⟩
            replace HS := HS.below hb
            refine ⟨_, rfl, ?_⟩
            clear hb
            refine v_ (Run.pickT rfl rfl c85 rfl) ?_
            refine as_ ?_
            refine WL.done ?_
            refine WQ.via (fun _ _ h_ => h_) hK77 ?_
            refine WC.ret ?_
            obtain rfl := Option.some.inj H
            refine WQ.fin (e' := .ret) (fn := Try.f22) (fun _ _ h_ => h_) (WQ.ret1 rfl rfl ?_)
            exact hR_ _ _ ⟨rfl, HS.b⟩
          · rw [if_neg c85] at H
            refine off_ (c' := false) (Bool.eq_false_iff.mpr c85) ?_
            refine WL.know 54 (Bool.eq_false_iff.mpr c85) ?_
            refine fast_ ?_
            refine WQ.via (fun _ _ h_ => h_) hK77 ?_
            refine WC.ret ?_
            obtain rfl := Option.some.inj H
            refine WQ.fin (e' := .ret) (fn := Try.f22) (fun _ _ h_ => h_) (WQ.ret1 rfl rfl ?_)
            exact hR_ _ _ ⟨rfl, HS.b⟩
        refine WC.loop (fun k_ E_ W_ => ∃ (i74 : Int), E_ = [(1, .int .i64 a1), (2, .pointer (some ⟨b2, 0, none⟩)), (5, .int .i64 (x0.f6.f1.length : Int)), (37, .slice A67 4 c68), (38, .int .i64 (4 : Int)), (39, .int .i64 i74)] ∧ (∃ o_, impl_LayerOk.l0 x0 a1 k_ i74 = some o_ ∧ G70 o_ = some r) ∧ St (fun _ => True) w W_ [boxM b2 cs0.toArray 48] [(fun W => k36.C W A67 4 ([x0.f1, x0.f2, x0.f3, x0.f4])), (fun W => (Kd.slice 3 (Kd.int .i64)).C W A61 x0.f4.f2.length x0.f4.f2), (fun W => (Kd.slice 3 (Kd.int .i64)).C W A57 x0.f4.f1.length x0.f4.f1), (fun W => (Kd.slice 3 (Kd.int .i64)).C W A53 x0.f3.f2.length x0.f3.f2), (fun W => (Kd.slice 3 (Kd.int .i64)).C W A49 x0.f3.f1.length x0.f3.f1), (fun W => (Kd.slice 3 (Kd.int .i64)).C W A45 x0.f2.f2.length x0.f2.f2), (fun W => (Kd.slice 3 (Kd.int .i64)).C W A41 x0.f2.f1.length x0.f2.f1), (fun W => (Kd.slice 3 (Kd.int .i64)).C W A37 x0.f1.f2.length x0.f1.f2), (fun W => (Kd.slice 3 (Kd.int .i64)).C W A33 x0.f1.f1.length x0.f1.f1), (fun W => (Kd.int .i64).C W A19 x0.f5.length x0.f5), (fun W => (Kd.int .i64).C W A11 x0.f0.length x0.f0), (fun W => (Kd.slice 3 (Kd.int .i64)).C W A5 x0.f6.f1.length x0.f6.f1), (fun W => k48.K W x0 cs0)] []) k ⟨0, rfl, ⟨_, H, Ho73⟩, (St.pick HS (fun W_ h_ => ⟨AllF.get 0 rfl h_, AllF.get 2 rfl h_, AllF.get 3 rfl h_, AllF.get 4 rfl h_, AllF.get 5 rfl h_, AllF.get 6 rfl h_, AllF.get 7 rfl h_, AllF.get 8 rfl h_, AllF.get 9 rfl h_, AllF.get 10 rfl h_, AllF.get 11 rfl h_, AllF.get 12 rfl h_, AllF.get 13 rfl h_, trivial⟩) (fun W_ h_ => trivial))⟩ ⟨rfl, rfl, rfl, rfl, rfl, rfl, trivial⟩ ?_
        rintro k_ E_ w98 ⟨i74, rfl, ⟨o72, H, Ho73⟩, HS⟩
        rcases k_ with _ | k99
        · exact (Option.some_ne_none _ (show none = some _ from H).symm).elim
        replace H : impl_LayerOk.b0 x0 a1 (impl_LayerOk.l0 x0 a1 k99) k99 i74 = some o72 := H
        unfold impl_LayerOk.b0 at H
        refine WC.seq (fun K100 hK100 => ?_)
        refine WC.region ?_
        refine v_ (Run.bin rfl rfl rfl bin_lss) ?_
        refine WL.done ?_
        refine WQ.via (fun _ _ h_ => h_) hK100 ?_
        refine WC.seq (fun K101 hK101 => ?_)
        by_cases c102 : i74 < (4 : Int)
        · rw [if_pos c102] at H
          refine WC.yes rfl (decide_eq_true c102) ?_
          refine WC.skip ?_
          refine WQ.via (fun _ _ h_ => h_) hK101 ?_
          refine WC.seq (fun K103 hK103 => ?_)
          refine WC.block ?_
          refine WC.seq (fun K104 hK104 => ?_)
          refine WC.region ?_
          obtain ⟨⟨q105, q106⟩, H⟩ := if_some H
          obtain ⟨ad107, rfl⟩ := C_open (HS.getO 0 rfl) (by omega)
          refine v_ (Run.indexAddr rfl rfl rfl Try.underlying87 (sz := 5) (by kernel_rfl) q105 q106) ?_
          obtain ⟨e108, el109, HS⟩ := HS.elO 0 rfl (by decide) o36 i74 q105 q106
          obtain ⟨A110, c111, hc112, le113⟩ := (at36_1 (AtK.whole (HS.getO 0 rfl).1)).slice
          replace HS := HS.deriveO (p := (fun W => (Kd.slice 3 (Kd.int .i64)).C W A110 (([x0.f1, x0.f2, x0.f3, x0.f4]).getD i74.toNat o36).f1.length (([x0.f1, x0.f2, x0.f3, x0.f4]).getD i74.toNat o36).f1)) (fun W_ hO_ hN_ => (at36_1 (AtK.whole (AllF.get 0 rfl hO_).1)).C hc112)
          obtain ⟨A114, c115, hc116, le117⟩ := (at36_2 (AtK.whole (HS.getO 1 rfl).1)).slice
          replace HS := HS.deriveO (p := (fun W => (Kd.slice 3 (Kd.int .i64)).C W A114 (([x0.f1, x0.f2, x0.f3, x0.f4]).getD i74.toNat o36).f2.length (([x0.f1, x0.f2, x0.f3, x0.f4]).getD i74.toNat o36).f2)) (fun W_ hO_ hN_ => (at36_2 (AtK.whole (AllF.get 1 rfl hO_).1)).C hc116)
          refine v_ (Run.loadS (cs := [.int .i64 ((([x0.f1, x0.f2, x0.f3, x0.f4]).getD i74.toNat o36).f0), .slice A110 ((([x0.f1, x0.f2, x0.f3, x0.f4]).getD i74.toNat o36).f1.length) c111, .slice A114 ((([x0.f1, x0.f2, x0.f3, x0.f4]).getD i74.toNat o36).f2.length) c115, .int .i64 ((([x0.f1, x0.f2, x0.f3, x0.f4]).getD i74.toNat o36).f3), .int .i64 ((([x0.f1, x0.f2, x0.f3, x0.f4]).getD i74.toNat o36).f4)]) rfl rfl Try.underlying36 rfl (by kernel_rfl) (cells_part (HS.getO 2 rfl).2 (part_cons (at36_0 (AtK.whole (HS.getO 2 rfl).1)).int (part_cons hc112 (part_cons hc116 (part_cons (at36_3 (AtK.whole (HS.getO 2 rfl).1)).int (part_cons (at36_4 (AtK.whole (HS.getO 2 rfl).1)).int part_nil))))))) ?_
          refine WL.alloc HS (v := .agg #[.int .i64 0, .slice none 0 0, .slice none 0 0, .int .i64 0, .int .i64 0]) (cs := #[.int .i64 0, .slice none 0 0, .slice none 0 0, .int .i64 0, .int .i64 0]) rfl rfl (by decide) rfl (by kernel_rfl) rfl (fun b118 w119 hb118 HS => ?_)
          refine WL.storeS HS 0 (vs := [.int .i64 ((([x0.f1, x0.f2, x0.f3, x0.f4]).getD i74.toNat o36).f0), .slice A110 ((([x0.f1, x0.f2, x0.f3, x0.f4]).getD i74.toNat o36).f1.length) c111, .slice A114 ((([x0.f1, x0.f2, x0.f3, x0.f4]).getD i74.toNat o36).f2.length) c115, .int .i64 ((([x0.f1, x0.f2, x0.f3, x0.f4]).getD i74.toNat o36).f3), .int .i64 ((([x0.f1, x0.f2, x0.f3, x0.f4]).getD i74.toNat o36).f4)]) rfl rfl rfl rfl rfl rfl (one_cons rfl (one_cons rfl (one_cons rfl (one_cons rfl (one_cons rfl one_nil))))) (by kernel_rfl) (Nat.le_of_ble_eq_true rfl) (cs' := #[.int .i64 ((([x0.f1, x0.f2, x0.f3, x0.f4]).getD i74.toNat o36).f0), .slice A110 ((([x0.f1, x0.f2, x0.f3, x0.f4]).getD i74.toNat o36).f1.length) c111, .slice A114 ((([x0.f1, x0.f2, x0.f3, x0.f4]).getD i74.toNat o36).f2.length) c115, .int .i64 ((([x0.f1, x0.f2, x0.f3, x0.f4]).getD i74.toNat o36).f3), .int .i64 ((([x0.f1, x0.f2, x0.f3, x0.f4]).getD i74.toNat o36).f4)]) (by kernel_rfl) (fun w120 HS => ?_)
          refine WL.done ?_
          refine WQ.via (fun _ _ h_ => h_) hK104 ?_
          refine WC.seq (fun K121 hK121 => ?_)
          refine WC.region ?_
          refine v_ (Run.loadS (cs := [.int .i64 ((([x0.f1, x0.f2, x0.f3, x0.f4]).getD i74.toNat o36).f0), .slice A110 ((([x0.f1, x0.f2, x0.f3, x0.f4]).getD i74.toNat o36).f1.length) c111, .slice A114 ((([x0.f1, x0.f2, x0.f3, x0.f4]).getD i74.toNat o36).f2.length) c115, .int .i64 ((([x0.f1, x0.f2, x0.f3, x0.f4]).getD i74.toNat o36).f3), .int .i64 ((([x0.f1, x0.f2, x0.f3, x0.f4]).getD i74.toNat o36).f4)]) rfl rfl Try.underlying36 rfl (by kernel_rfl) (box_part (HS.mu 0 rfl) part_all)) ?_
          refine mv_ ?_
          refine mv_ ?_
          obtain ⟨t122, ha123, H⟩ := bind_some H
          refine c_ Try.func65 (impl_withinBudget.calls k99 ((([x0.f1, x0.f2, x0.f3, x0.f4]).getD i74.toNat o36).f0) A110 c111 ((([x0.f1, x0.f2, x0.f3, x0.f4]).getD i74.toNat o36).f1) A114 c115 ((([x0.f1, x0.f2, x0.f3, x0.f4]).getD i74.toNat o36).f2) ((([x0.f1, x0.f2, x0.f3, x0.f4]).getD i74.toNat o36).f3) ((([x0.f1, x0.f2, x0.f3, x0.f4]).getD i74.toNat o36).f4) a1 a1 t122 _ (HS.getO 1 rfl) le113 (HS.getO 0 rfl) le117 ha123) ?_
          rintro _ w124 ⟨rfl, hb⟩
          replace HS := HS.below hb
          refine ⟨_, rfl, ?_⟩
          clear hb
          refine v_ (Run.not rfl rfl) ?_
          refine WL.done ?_
          refine WQ.via (fun _ _ h_ => h_) hK121 ?_
          by_cases c125 : t122 = true
          · rw [if_pos c125] at H
            refine WC.no rfl (congrArg (fun b_ => !b_) c125) ?_
            refine WC.skip ?_
            refine WQ.via (fun _ _ h_ => h_) hK103 ?_
            refine WC.region ?_
            refine v_ (Run.bin rfl rfl rfl bin_add64) ?_
            refine mv_ ?_
            refine WL.done ?_
            exact WQ.round k99 (fun _ _ h_ => h_) (Nat.lt_succ_self _) ⟨(wrap64 (i74 + 1)), rfl, ⟨_, H, Ho73⟩, (St.pick (St.forget HS 0 rfl) (fun W_ h_ => ⟨AllF.get 3 rfl h_, AllF.get 4 rfl h_, AllF.get 5 rfl h_, AllF.get 6 rfl h_, AllF.get 7 rfl h_, AllF.get 8 rfl h_, AllF.get 9 rfl h_, AllF.get 10 rfl h_, AllF.get 11 rfl h_, AllF.get 12 rfl h_, AllF.get 13 rfl h_, AllF.get 14 rfl h_, AllF.get 15 rfl h_, trivial⟩) (fun W_ h_ => trivial))⟩ ⟨rfl, rfl, rfl, rfl, rfl, rfl, trivial⟩
          · rw [if_neg c125] at H
            refine WC.yes rfl (congrArg (fun b_ => !b_) (Bool.eq_false_iff.mpr c125)) ?_
            refine WC.seq (fun K126 hK126 => ?_)
            refine WC.region ?_
            refine as_ ?_
            refine WL.done ?_
            refine WQ.via (fun _ _ h_ => h_) hK126 ?_
            refine WC.ret ?_
            obtain rfl := Option.some.inj H
            rw [hG71] at Ho73
            replace H : some _ = some _ := Ho73
            obtain rfl := Option.some.inj H
            refine WQ.fin (e' := .ret) (fn := Try.f22) (fun _ _ h_ => h_) (WQ.ret1 rfl rfl ?_)
            exact hR_ _ _ ⟨rfl, HS.b⟩
        · rw [if_neg c102] at H
          refine WC.no rfl (decide_eq_false c102) ?_
          refine WC.exit ?_
          obtain rfl := Option.some.inj H
          exact WQ.via2 (fun _ _ h_ => h_) X75 ⟨i74, rfl, Ho73, (St.pick HS (fun W_ h_ => ⟨AllF.get 0 rfl h_, AllF.get 1 rfl h_, AllF.get 2 rfl h_, AllF.get 3 rfl h_, AllF.get 4 rfl h_, AllF.get 5 rfl h_, AllF.get 6 rfl h_, AllF.get 7 rfl h_, AllF.get 8 rfl h_, AllF.get 9 rfl h_, AllF.get 10 rfl h_, AllF.get 11 rfl h_, AllF.get 12 rfl h_, trivial⟩) (fun W_ h_ => trivial))⟩ ⟨rfl, rfl, rfl, rfl, rfl, rfl, trivial⟩
      · rw [if_neg c30] at H
        refine WC.yes rfl (congrArg (fun b_ => !b_) (Bool.eq_false_iff.mpr c30)) ?_
        refine WC.seq (fun K127 hK127 => ?_)
        refine WC.region ?_
        refine as_ ?_
        refine WL.done ?_
        refine WQ.via (fun _ _ h_ => h_) hK127 ?_
        refine WC.ret ?_
        obtain rfl := Option.some.inj H
        refine WQ.fin (e' := .ret) (fn := Try.f22) (fun _ _ h_ => h_) (WQ.ret1 rfl rfl ?_)
        exact hR_ _ _ ⟨rfl, HS.b⟩
    · rw [if_neg c26] at H
      refine off_ (c' := true) (congrArg (fun b_ => !b_) (Bool.eq_false_iff.mpr c26)) ?_
      refine WL.know 24 (congrArg (fun b_ => !b_) (Bool.eq_false_iff.mpr c26)) ?_
      refine fast_ ?_
      refine WQ.via (fun _ _ h_ => h_) hK10 ?_
      refine WC.yes rfl rfl ?_
      refine WC.seq (fun K128 hK128 => ?_)
      refine WC.region ?_
      refine as_ ?_
      refine WL.done ?_
      refine WQ.via (fun _ _ h_ => h_) hK128 ?_
      refine WC.ret ?_
      obtain rfl := Option.some.inj H
      refine WQ.fin (e' := .ret) (fn := Try.f22) (fun _ _ h_ => h_) (WQ.ret1 rfl rfl ?_)
      exact hR_ _ _ ⟨rfl, HS.b⟩
  · rw [if_neg c18] at H
    refine off_ (c' := true) (congrArg (fun b_ => !b_) (Bool.eq_false_iff.mpr c18)) ?_
    refine WL.know 17 (congrArg (fun b_ => !b_) (Bool.eq_false_iff.mpr c18)) ?_
    refine fast_ ?_
    refine WQ.via (fun _ _ h_ => h_) hK10 ?_
    refine WC.yes rfl rfl ?_
    refine WC.seq (fun K129 hK129 => ?_)
    refine WC.region ?_
    refine as_ ?_
    refine WL.done ?_
    refine WQ.via (fun _ _ h_ => h_) hK129 ?_
    refine WC.ret ?_
    obtain rfl := Option.some.inj H
    refine WQ.fin (e' := .ret) (fn := Try.f22) (fun _ _ h_ => h_) (WQ.ret1 rfl rfl ?_)
    exact hR_ _ _ ⟨rfl, HS.b⟩
def laws_szLayer.g (k : Nat) (x0 : S44) (a1 : Int) : Option Int := ((laws_szIntS.f x0.f0 a1).bind fun t9 => (if t9 < 0 then (some (-1)) else ((laws_szMatrix.f k x0.f1.f0 x0.f1.f1 x0.f1.f2 x0.f1.f3 x0.f1.f4 t9).bind fun t25 => (if t25 < 0 then (some (-1)) else ((laws_szMatrix.f k x0.f2.f0 x0.f2.f1 x0.f2.f2 x0.f2.f3 x0.f2.f4 t25).bind fun t41 => (if t41 < 0 then (some (-1)) else ((laws_szMatrix.f k x0.f3.f0 x0.f3.f1 x0.f3.f2 x0.f3.f3 x0.f3.f4 t41).bind fun t57 => (if t57 < 0 then (some (-1)) else ((laws_szMatrix.f k x0.f4.f0 x0.f4.f1 x0.f4.f2 x0.f4.f3 x0.f4.f4 t57).bind fun t73 => (if t73 < 0 then (some (-1)) else ((laws_szIntS.f x0.f5 t73).bind fun t85 => (if t85 < 0 then (some (-1)) else ((laws_szMatrix.f k x0.f6.f0 x0.f6.f1 x0.f6.f2 x0.f6.f3 x0.f6.f4 t85).bind fun t101 => (if t101 < 0 then (some (-1)) else ((laws_szMatrix.f k x0.f7.f0 x0.f7.f1 x0.f7.f2 x0.f7.f3 x0.f7.f4 t101).bind fun t117 => (if t117 < 0 then (some (-1)) else (some t117)))))))))))))))))
set_option maxHeartbeats 4000000 in
set_option maxRecDepth 20000 in
theorem laws_szLayer.runs (k : Nat) (cs0 : List Value) (x0 : S44) (a1 : Int) (r : Int) (w : World) (hk0 : k44.K w x0 cs0) (H : laws_szLayer.g k x0 a1 = some r) :
    Calls Try.prog 19 #[.agg cs0.toArray, .int .i64 a1] w fun e w' => e = .returned (.int .i64 r) ∧ Below w.heap.size w w' := by
  have el0 : cs0.length = 32 := k44.K_len hk0
  unfold laws_szLayer.g at H
  have HS : St (fun _ => True) w w [] [(fun W => k44.K W x0 cs0)] [] := St.start (foot_cons (foot_K h44 hk0) foot_nil)
  refine calls_W Try.func19 rfl rfl (Nat.le_of_ble_eq_true rfl) (fun R_ hR_ => ?_)
  refine WC.seq (fun K1 hK1 => ?_)
  refine WC.region ?_
  refine WL.box HS rfl rfl (by decide) rfl rfl rfl (fun b2 w3 hb2 HS => ?_)
  refine as_ ?_
  refine WL.done ?_
  refine WQ.via (fun _ _ h_ => h_) hK1 ?_
  refine WC.seq (fun K4 hK4 => ?_)
  refine WC.region ?_
  refine v_ (Run.fieldAddr rfl rfl Try.underlying44 rfl (by kernel_rfl) rfl) ?_
  obtain ⟨A5, c6, hc7, le8⟩ := (at44_0 (AtK.whole (HS.getO 0 rfl))).slice
  replace HS := HS.deriveO (p := (fun W => (Kd.int .i64).C W A5 x0.f0.length x0.f0)) (fun W_ hO_ hN_ => (at44_0 (AtK.whole (AllF.get 0 rfl hO_))).C hc7)
  refine v_ (Run.load rfl rfl Try.underlying25 rfl (box_cell (HS.mu 0 rfl) hc7)) ?_
  refine mv_ ?_
  obtain ⟨t9, ha10, H⟩ := bind_some H
  refine c_ Try.func46 (laws_szIntS.calls A5 c6 x0.f0 a1 t9 _ (HS.getO 0 rfl) le8 ha10) ?_
  rintro _ w11 ⟨rfl, hb⟩
  have hb := hb.below
  replace HS := HS.below hb
  refine ⟨_, rfl, ?_⟩
  clear hb
  refine as_ ?_
  refine WL.done ?_
  refine WQ.via (fun _ _ h_ => h_) hK4 ?_
  refine WC.seq (fun K12 hK12 => ?_)
  refine WC.seq (fun K13 hK13 => ?_)
  refine WC.region ?_
  refine mv_ ?_
  refine v_ (Run.bin rfl rfl rfl bin_lss) ?_
  refine WL.done ?_
  refine WQ.via (fun _ _ h_ => h_) hK13 ?_
  by_cases c14 : t9 < 0
  · rw [if_pos c14] at H
    refine WC.yes rfl (decide_eq_true c14) ?_
    refine WC.seq (fun K15 hK15 => ?_)
    refine WC.region ?_
    refine as_ ?_
    refine WL.done ?_
    refine WQ.via (fun _ _ h_ => h_) hK15 ?_
    refine WC.ret ?_
    obtain rfl := Option.some.inj H
    refine WQ.fin (e' := .ret) (fn := Try.f19) (fun _ _ h_ => h_) (WQ.ret1 rfl rfl ?_)
    exact hR_ _ _ ⟨rfl, HS.b⟩
  · rw [if_neg c14] at H
    refine WC.no rfl (decide_eq_false c14) ?_
    refine WC.skip ?_
    refine WQ.via (fun _ _ h_ => h_) hK12 ?_
    refine WC.seq (fun K16 hK16 => ?_)
    refine WC.region ?_
    refine v_ (Run.fieldAddr rfl rfl Try.underlying44 rfl (by kernel_rfl) rfl) ?_
    obtain ⟨A17, c18, hc19, le20⟩ := (at44_2 (AtK.whole (HS.getO 1 rfl))).slice
    replace HS := HS.deriveO (p := (fun W => (Kd.slice 3 (Kd.int .i64)).C W A17 x0.f1.f1.length x0.f1.f1)) (fun W_ hO_ hN_ => (at44_2 (AtK.whole (AllF.get 1 rfl hO_))).C hc19)
    obtain ⟨A21, c22, hc23, le24⟩ := (at44_3 (AtK.whole (HS.getO 2 rfl))).slice
    replace HS := HS.deriveO (p := (fun W => (Kd.slice 3 (Kd.int .i64)).C W A21 x0.f1.f2.length x0.f1.f2)) (fun W_ hO_ hN_ => (at44_3 (AtK.whole (AllF.get 2 rfl hO_))).C hc23)
    refine v_ (Run.loadS (cs := [.int .i64 x0.f1.f0, .slice A17 x0.f1.f1.length c18, .slice A21 x0.f1.f2.length c22, .int .i64 x0.f1.f3, .int .i64 x0.f1.f4]) rfl rfl Try.underlying27 rfl (by kernel_rfl) (box_part (HS.mu 0 rfl) (part_cons (at44_1 (AtK.whole (HS.getO 3 rfl))).int (part_cons hc19 (part_cons hc23 (part_cons (at44_4 (AtK.whole (HS.getO 3 rfl))).int (part_cons (at44_5 (AtK.whole (HS.getO 3 rfl))).int part_nil))))))) ?_
    refine mv_ ?_
    obtain ⟨t25, ha26, H⟩ := bind_some H
    refine c_ Try.func47 (laws_szMatrix.calls k x0.f1.f0 A17 c18 x0.f1.f1 A21 c22 x0.f1.f2 x0.f1.f3 x0.f1.f4 t9 t25 _ (HS.getO 1 rfl) le20 (HS.getO 0 rfl) le24 ha26) ?_
    rintro _ w27 ⟨rfl, hb⟩
    replace HS := HS.below hb
    refine ⟨_, rfl, ?_⟩
    clear hb
    refine as_ ?_
    refine WL.done ?_
    refine WQ.via (fun _ _ h_ => h_) hK16 ?_
    refine WC.seq (fun K28 hK28 => ?_)
    refine WC.seq (fun K29 hK29 => ?_)
    refine WC.region ?_
    refine mv_ ?_
    refine v_ (Run.bin rfl rfl rfl bin_lss) ?_
    refine WL.done ?_
    refine WQ.via (fun _ _ h_ => h_) hK29 ?_
    by_cases c30 : t25 < 0
    · rw [if_pos c30] at H
      refine WC.yes rfl (decide_eq_true c30) ?_
      refine WC.seq (fun K31 hK31 => ?_)
      refine WC.region ?_
      refine as_ ?_
      refine WL.done ?_
      refine WQ.via (fun _ _ h_ => h_) hK31 ?_
      refine WC.ret ?_
      obtain rfl := Option.some.inj H
      refine WQ.fin (e' := .ret) (fn := Try.f19) (fun _ _ h_ => h_) (WQ.ret1 rfl rfl ?_)
      exact hR_ _ _ ⟨rfl, HS.b⟩
    · rw [if_neg c30] at H
      refine WC.no rfl (decide_eq_false c30) ?_
      refine WC.skip ?_
      refine WQ.via (fun _ _ h_ => h_) hK28 ?_
      refine WC.seq (fun K32 hK32 => ?_)
      refine WC.region ?_
      refine v_ (Run.fieldAddr rfl rfl Try.underlying44 rfl (by kernel_rfl) rfl) ?_
      obtain ⟨A33, c34, hc35, le36⟩ := (at44_7 (AtK.whole (HS.getO 3 rfl))).slice
      replace HS := HS.deriveO (p := (fun W => (Kd.slice 3 (Kd.int .i64)).C W A33 x0.f2.f1.length x0.f2.f1)) (fun W_ hO_ hN_ => (at44_7 (AtK.whole (AllF.get 3 rfl hO_))).C hc35)
      obtain ⟨A37, c38, hc39, le40⟩ := (at44_8 (AtK.whole (HS.getO 4 rfl))).slice
      replace HS := HS.deriveO (p := (fun W => (Kd.slice 3 (Kd.int .i64)).C W A37 x0.f2.f2.length x0.f2.f2)) (fun W_ hO_ hN_ => (at44_8 (AtK.whole (AllF.get 4 rfl hO_))).C hc39)
      refine v_ (Run.loadS (cs := [.int .i64 x0.f2.f0, .slice A33 x0.f2.f1.length c34, .slice A37 x0.f2.f2.length c38, .int .i64 x0.f2.f3, .int .i64 x0.f2.f4]) rfl rfl Try.underlying27 rfl (by kernel_rfl) (box_part (HS.mu 0 rfl) (part_cons (at44_6 (AtK.whole (HS.getO 5 rfl))).int (part_cons hc35 (part_cons hc39 (part_cons (at44_9 (AtK.whole (HS.getO 5 rfl))).int (part_cons (at44_10 (AtK.whole (HS.getO 5 rfl))).int part_nil))))))) ?_
      refine mv_ ?_
      obtain ⟨t41, ha42, H⟩ := bind_some H
      refine c_ Try.func47 (laws_szMatrix.calls k x0.f2.f0 A33 c34 x0.f2.f1 A37 c38 x0.f2.f2 x0.f2.f3 x0.f2.f4 t25 t41 _ (HS.getO 1 rfl) le36 (HS.getO 0 rfl) le40 ha42) ?_
      rintro _ w43 ⟨rfl, hb⟩
      replace HS := HS.below hb
      refine ⟨_, rfl, ?_⟩
      clear hb
      refine as_ ?_
      refine WL.done ?_
      refine WQ.via (fun _ _ h_ => h_) hK32 ?_
      refine WC.seq (fun K44 hK44 => ?_)
      refine WC.seq (fun K45 hK45 => ?_)
      refine WC.region ?_
      refine mv_ ?_
      refine v_ (Run.bin rfl rfl rfl bin_lss) ?_
      refine WL.done ?_
      refine WQ.via (fun _ _ h_ => h_) hK45 ?_
      by_cases c46 : t41 < 0
      · rw [if_pos c46] at H
        refine WC.yes rfl (decide_eq_true c46) ?_
        refine WC.seq (fun K47 hK47 => ?_)
        refine WC.region ?_
        refine as_ ?_
        refine WL.done ?_
        refine WQ.via (fun _ _ h_ => h_) hK47 ?_
        refine WC.ret ?_
        obtain rfl := Option.some.inj H
        refine WQ.fin (e' := .ret) (fn := Try.f19) (fun _ _ h_ => h_) (WQ.ret1 rfl rfl ?_)
        exact hR_ _ _ ⟨rfl, HS.b⟩
      · rw [if_neg c46] at H
        refine WC.no rfl (decide_eq_false c46) ?_
        refine WC.skip ?_
        refine WQ.via (fun _ _ h_ => h_) hK44 ?_
        refine WC.seq (fun K48 hK48 => ?_)
        refine WC.region ?_
        refine v_ (Run.fieldAddr rfl rfl Try.underlying44 rfl (by kernel_rfl) rfl) ?_
        obtain ⟨A49, c50, hc51, le52⟩ := (at44_12 (AtK.whole (HS.getO 5 rfl))).slice
        replace HS := HS.deriveO (p := (fun W => (Kd.slice 3 (Kd.int .i64)).C W A49 x0.f3.f1.length x0.f3.f1)) (fun W_ hO_ hN_ => (at44_12 (AtK.whole (AllF.get 5 rfl hO_))).C hc51)
        obtain ⟨A53, c54, hc55, le56⟩ := (at44_13 (AtK.whole (HS.getO 6 rfl))).slice
        replace HS := HS.deriveO (p := (fun W => (Kd.slice 3 (Kd.int .i64)).C W A53 x0.f3.f2.length x0.f3.f2)) (fun W_ hO_ hN_ => (at44_13 (AtK.whole (AllF.get 6 rfl hO_))).C hc55)
        refine v_ (Run.loadS (cs := [.int .i64 x0.f3.f0, .slice A49 x0.f3.f1.length c50, .slice A53 x0.f3.f2.length c54, .int .i64 x0.f3.f3, .int .i64 x0.f3.f4]) rfl rfl Try.underlying27 rfl (by kernel_rfl) (box_part (HS.mu 0 rfl) (part_cons (at44_11 (AtK.whole (HS.getO 7 rfl))).int (part_cons hc51 (part_cons hc55 (part_cons (at44_14 (AtK.whole (HS.getO 7 rfl))).int (part_cons (at44_15 (AtK.whole (HS.getO 7 rfl))).int part_nil))))))) ?_
        refine mv_ ?_
        obtain ⟨t57, ha58, H⟩ := bind_some H
        refine c_ Try.func47 (laws_szMatrix.calls k x0.f3.f0 A49 c50 x0.f3.f1 A53 c54 x0.f3.f2 x0.f3.f3 x0.f3.f4 t41 t57 _ (HS.getO 1 rfl) le52 (HS.getO 0 rfl) le56 ha58) ?_
        rintro _ w59 ⟨rfl, hb⟩
        replace HS := HS.below hb
        refine ⟨_, rfl, ?_⟩
        clear hb
        refine as_ ?_
        refine WL.done ?_
        refine WQ.via (fun _ _ h_ => h_) hK48 ?_
        refine WC.seq (fun K60 hK60 => ?_)
        refine WC.seq (fun K61 hK61 => ?_)
        refine WC.region ?_
        refine mv_ ?_
        refine v_ (Run.bin rfl rfl rfl bin_lss) ?_
        refine WL.done ?_
        refine WQ.via (fun _ _ h_ => h_) hK61 ?_
        by_cases c62 : t57 < 0
        · rw [if_pos c62] at H
          refine WC.yes rfl (decide_eq_true c62) ?_
          refine WC.seq (fun K63 hK63 => ?_)
          refine WC.region ?_
          refine as_ ?_
          refine WL.done ?_
          refine WQ.via (fun _ _ h_ => h_) hK63 ?_
          refine WC.ret ?_
          obtain rfl := Option.some.inj H
          refine WQ.fin (e' := .ret) (fn := Try.f19) (fun _ _ h_ => h_) (WQ.ret1 rfl rfl ?_)
          exact hR_ _ _ ⟨rfl, HS.b⟩
        · rw [if_neg c62] at H
          refine WC.no rfl (decide_eq_false c62) ?_
          refine WC.skip ?_
          refine WQ.via (fun _ _ h_ => h_) hK60 ?_
          refine WC.seq (fun K64 hK64 => ?_)
          refine WC.region ?_
          refine v_ (Run.fieldAddr rfl rfl Try.underlying44 rfl (by kernel_rfl) rfl) ?_
          obtain ⟨A65, c66, hc67, le68⟩ := (at44_17 (AtK.whole (HS.getO 7 rfl))).slice
          replace HS := HS.deriveO (p := (fun W => (Kd.slice 3 (Kd.int .i64)).C W A65 x0.f4.f1.length x0.f4.f1)) (fun W_ hO_ hN_ => (at44_17 (AtK.whole (AllF.get 7 rfl hO_))).C hc67)
          obtain ⟨A69, c70, hc71, le72⟩ := (at44_18 (AtK.whole (HS.getO 8 rfl))).slice
          replace HS := HS.deriveO (p := (fun W => (Kd.slice 3 (Kd.int .i64)).C W A69 x0.f4.f2.length x0.f4.f2)) (fun W_ hO_ hN_ => (at44_18 (AtK.whole (AllF.get 8 rfl hO_))).C hc71)
          refine v_ (Run.loadS (cs := [.int .i64 x0.f4.f0, .slice A65 x0.f4.f1.length c66, .slice A69 x0.f4.f2.length c70, .int .i64 x0.f4.f3, .int .i64 x0.f4.f4]) rfl rfl Try.underlying27 rfl (by kernel_rfl) (box_part (HS.mu 0 rfl) (part_cons (at44_16 (AtK.whole (HS.getO 9 rfl))).int (part_cons hc67 (part_cons hc71 (part_cons (at44_19 (AtK.whole (HS.getO 9 rfl))).int (part_cons (at44_20 (AtK.whole (HS.getO 9 rfl))).int part_nil))))))) ?_
          refine mv_ ?_
          obtain ⟨t73, ha74, H⟩ := bind_some H
          refine c_ Try.func47 (laws_szMatrix.calls k x0.f4.f0 A65 c66 x0.f4.f1 A69 c70 x0.f4.f2 x0.f4.f3 x0.f4.f4 t57 t73 _ (HS.getO 1 rfl) le68 (HS.getO 0 rfl) le72 ha74) ?_
          rintro _ w75 ⟨rfl, hb⟩
          replace HS := HS.below hb
          refine ⟨_, rfl, ?_⟩
          clear hb
          refine as_ ?_
          refine WL.done ?_
          refine WQ.via (fun _ _ h_ => h_) hK64 ?_
          refine WC.seq (fun K76 hK76 => ?_)
          refine WC.seq (fun K77 hK77 => ?_)
          refine WC.region ?_
          refine mv_ ?_
          refine v_ (Run.bin rfl rfl rfl bin_lss) ?_
          refine WL.done ?_
          refine WQ.via (fun _ _ h_ => h_) hK77 ?_
          by_cases c78 : t73 < 0
          · rw [if_pos c78] at H
            refine WC.yes rfl (decide_eq_true c78) ?_
            refine WC.seq (fun K79 hK79 => ?_)
            refine WC.region ?_
            refine as_ ?_
            refine WL.done ?_
            refine WQ.via (fun _ _ h_ => h_) hK79 ?_
            refine WC.ret ?_
            obtain rfl := Option.some.inj H
            refine WQ.fin (e' := .ret) (fn := Try.f19) (fun _ _ h_ => h_) (WQ.ret1 rfl rfl ?_)
            exact hR_ _ _ ⟨rfl, HS.b⟩
          · rw [if_neg c78] at H
            refine WC.no rfl (decide_eq_false c78) ?_
            refine WC.skip ?_
            refine WQ.via (fun _ _ h_ => h_) hK76 ?_
            refine WC.seq (fun K80 hK80 => ?_)
            refine WC.region ?_
            refine v_ (Run.fieldAddr rfl rfl Try.underlying44 rfl (by kernel_rfl) rfl) ?_
            obtain ⟨A81, c82, hc83, le84⟩ := (at44_21 (AtK.whole (HS.getO 9 rfl))).slice
            replace HS := HS.deriveO (p := (fun W => (Kd.int .i64).C W A81 x0.f5.length x0.f5)) (fun W_ hO_ hN_ => (at44_21 (AtK.whole (AllF.get 9 rfl hO_))).C hc83)
            refine v_ (Run.load rfl rfl Try.underlying25 rfl (box_cell (HS.mu 0 rfl) hc83)) ?_
            refine mv_ ?_
            obtain ⟨t85, ha86, H⟩ := bind_some H
            refine c_ Try.func46 (laws_szIntS.calls A81 c82 x0.f5 t73 t85 _ (HS.getO 0 rfl) le84 ha86) ?_
            rintro _ w87 ⟨rfl, hb⟩
            have hb := hb.below
            replace HS := HS.below hb
            refine ⟨_, rfl, ?_⟩
            clear hb
            refine as_ ?_
            refine WL.done ?_
            refine WQ.via (fun _ _ h_ => h_) hK80 ?_
            refine WC.seq (fun K88 hK88 => ?_)
            refine WC.seq (fun K89 hK89 => ?_)
            refine WC.region ?_
            refine mv_ ?_
            refine v_ (Run.bin rfl rfl rfl bin_lss) ?_
            refine WL.done ?_
            refine WQ.via (fun _ _ h_ => h_) hK89 ?_
            by_cases c90 : t85 < 0
            · rw [if_pos c90] at H
              refine WC.yes rfl (decide_eq_true c90) ?_
              refine WC.seq (fun K91 hK91 => ?_)
              refine WC.region ?_
              refine as_ ?_
              refine WL.done ?_
              refine WQ.via (fun _ _ h_ => h_) hK91 ?_
              refine WC.ret ?_
              obtain rfl := Option.some.inj H
              refine WQ.fin (e' := .ret) (fn := Try.f19) (fun _ _ h_ => h_) (WQ.ret1 rfl rfl ?_)
              exact hR_ _ _ ⟨rfl, HS.b⟩
            · rw [if_neg c90] at H
              refine WC.no rfl (decide_eq_false c90) ?_
              refine WC.skip ?_
              refine WQ.via (fun _ _ h_ => h_) hK88 ?_
              refine WC.seq (fun K92 hK92 => ?_)
              refine WC.region ?_
              refine v_ (Run.fieldAddr rfl rfl Try.underlying44 rfl (by kernel_rfl) rfl) ?_
              obtain ⟨A93, c94, hc95, le96⟩ := (at44_23 (AtK.whole (HS.getO 10 rfl))).slice
              replace HS := HS.deriveO (p := (fun W => (Kd.slice 3 (Kd.int .i64)).C W A93 x0.f6.f1.length x0.f6.f1)) (fun W_ hO_ hN_ => (at44_23 (AtK.whole (AllF.get 10 rfl hO_))).C hc95)
              obtain ⟨A97, c98, hc99, le100⟩ := (at44_24 (AtK.whole (HS.getO 11 rfl))).slice
              replace HS := HS.deriveO (p := (fun W => (Kd.slice 3 (Kd.int .i64)).C W A97 x0.f6.f2.length x0.f6.f2)) (fun W_ hO_ hN_ => (at44_24 (AtK.whole (AllF.get 11 rfl hO_))).C hc99)
              refine v_ (Run.loadS (cs := [.int .i64 x0.f6.f0, .slice A93 x0.f6.f1.length c94, .slice A97 x0.f6.f2.length c98, .int .i64 x0.f6.f3, .int .i64 x0.f6.f4]) rfl rfl Try.underlying27 rfl (by kernel_rfl) (box_part (HS.mu 0 rfl) (part_cons (at44_22 (AtK.whole (HS.getO 12 rfl))).int (part_cons hc95 (part_cons hc99 (part_cons (at44_25 (AtK.whole (HS.getO 12 rfl))).int (part_cons (at44_26 (AtK.whole (HS.getO 12 rfl))).int part_nil))))))) ?_
              refine mv_ ?_
              obtain ⟨t101, ha102, H⟩ := bind_some H
              refine c_ Try.func47 (laws_szMatrix.calls k x0.f6.f0 A93 c94 x0.f6.f1 A97 c98 x0.f6.f2 x0.f6.f3 x0.f6.f4 t85 t101 _ (HS.getO 1 rfl) le96 (HS.getO 0 rfl) le100 ha102) ?_
              rintro _ w103 ⟨rfl, hb⟩
              replace HS := HS.below hb
              refine ⟨_, rfl, ?_⟩
              clear hb
              refine as_ ?_
              refine WL.done ?_
              refine WQ.via (fun _ _ h_ => h_) hK92 ?_
              refine WC.seq (fun K104 hK104 => ?_)
              refine WC.seq (fun K105 hK105 => ?_)
              refine WC.region ?_
              refine mv_ ?_
              refine v_ (Run.bin rfl rfl rfl bin_lss) ?_
              refine WL.done ?_
              refine WQ.via (fun _ _ h_ => h_) hK105 ?_
              by_cases c106 : t101 < 0
              · rw [if_pos c106] at H
                refine WC.yes rfl (decide_eq_true c106) ?_
                refine WC.seq (fun K107 hK107 => ?_)
                refine WC.region ?_
                refine as_ ?_
                refine WL.done ?_
                refine WQ.via (fun _ _ h_ => h_) hK107 ?_
                refine WC.ret ?_
                obtain rfl := Option.some.inj H
                refine WQ.fin (e' := .ret) (fn := Try.f19) (fun _ _ h_ => h_) (WQ.ret1 rfl rfl ?_)
                exact hR_ _ _ ⟨rfl, HS.b⟩
              · rw [if_neg c106] at H
                refine WC.no rfl (decide_eq_false c106) ?_
                refine WC.skip ?_
                refine WQ.via (fun _ _ h_ => h_) hK104 ?_
                refine WC.seq (fun K108 hK108 => ?_)
                refine WC.region ?_
                refine v_ (Run.fieldAddr rfl rfl Try.underlying44 rfl (by kernel_rfl) rfl) ?_
                obtain ⟨A109, c110, hc111, le112⟩ := (at44_28 (AtK.whole (HS.getO 12 rfl))).slice
                replace HS := HS.deriveO (p := (fun W => (Kd.slice 3 (Kd.int .i64)).C W A109 x0.f7.f1.length x0.f7.f1)) (fun W_ hO_ hN_ => (at44_28 (AtK.whole (AllF.get 12 rfl hO_))).C hc111)
                obtain ⟨A113, c114, hc115, le116⟩ := (at44_29 (AtK.whole (HS.getO 13 rfl))).slice
                replace HS := HS.deriveO (p := (fun W => (Kd.slice 3 (Kd.int .i64)).C W A113 x0.f7.f2.length x0.f7.f2)) (fun W_ hO_ hN_ => (at44_29 (AtK.whole (AllF.get 13 rfl hO_))).C hc115)
                refine v_ (Run.loadS (cs := [.int .i64 x0.f7.f0, .slice A109 x0.f7.f1.length c110, .slice A113 x0.f7.f2.length c114, .int .i64 x0.f7.f3, .int .i64 x0.f7.f4]) rfl rfl Try.underlying27 rfl (by kernel_rfl) (box_part (HS.mu 0 rfl) (part_cons (at44_27 (AtK.whole (HS.getO 14 rfl))).int (part_cons hc111 (part_cons hc115 (part_cons (at44_30 (AtK.whole (HS.getO 14 rfl))).int (part_cons (at44_31 (AtK.whole (HS.getO 14 rfl))).int part_nil))))))) ?_
                refine mv_ ?_
                obtain ⟨t117, ha118, H⟩ := bind_some H
                refine c_ Try.func47 (laws_szMatrix.calls k x0.f7.f0 A109 c110 x0.f7.f1 A113 c114 x0.f7.f2 x0.f7.f3 x0.f7.f4 t101 t117 _ (HS.getO 1 rfl) le112 (HS.getO 0 rfl) le116 ha118) ?_
                rintro _ w119 ⟨rfl, hb⟩
                replace HS := HS.below hb
                refine ⟨_, rfl, ?_⟩
                clear hb
                refine as_ ?_
                refine WL.done ?_
                refine WQ.via (fun _ _ h_ => h_) hK108 ?_
                refine WC.seq (fun K120 hK120 => ?_)
                refine WC.seq (fun K121 hK121 => ?_)
                refine WC.region ?_
                refine mv_ ?_
                refine v_ (Run.bin rfl rfl rfl bin_lss) ?_
                refine WL.done ?_
                refine WQ.via (fun _ _ h_ => h_) hK121 ?_
                by_cases c122 : t117 < 0
                · rw [if_pos c122] at H
                  refine WC.yes rfl (decide_eq_true c122) ?_
                  refine WC.seq (fun K123 hK123 => ?_)
                  refine WC.region ?_
                  refine as_ ?_
                  refine WL.done ?_
                  refine WQ.via (fun _ _ h_ => h_) hK123 ?_
                  refine WC.ret ?_
                  obtain rfl := Option.some.inj H
                  refine WQ.fin (e' := .ret) (fn := Try.f19) (fun _ _ h_ => h_) (WQ.ret1 rfl rfl ?_)
                  exact hR_ _ _ ⟨rfl, HS.b⟩
                · rw [if_neg c122] at H
                  refine WC.no rfl (decide_eq_false c122) ?_
                  refine WC.skip ?_
                  refine WQ.via (fun _ _ h_ => h_) hK120 ?_
                  refine WC.seq (fun K124 hK124 => ?_)
                  refine WC.region ?_
                  refine mv_ ?_
                  refine as_ ?_
                  refine WL.done ?_
                  refine WQ.via (fun _ _ h_ => h_) hK124 ?_
                  refine WC.ret ?_
                  obtain rfl := Option.some.inj H
                  refine WQ.fin (e' := .ret) (fn := Try.f19) (fun _ _ h_ => h_) (WQ.ret1 rfl rfl ?_)
                  exact hR_ _ _ ⟨rfl, HS.b⟩
def laws_toLayer.g (k : Nat) (x0 : S44) : Option S48 := ((laws_toIntS.f k x0.f0).bind fun t14 => ((laws_toMatrix.f k x0.f1.f0 x0.f1.f1 x0.f1.f2 x0.f1.f3 x0.f1.f4).bind fun t33 => ((laws_toMatrix.f k x0.f2.f0 x0.f2.f1 x0.f2.f2 x0.f2.f3 x0.f2.f4).bind fun t58 => ((laws_toMatrix.f k x0.f3.f0 x0.f3.f1 x0.f3.f2 x0.f3.f3 x0.f3.f4).bind fun t83 => ((laws_toMatrix.f k x0.f4.f0 x0.f4.f1 x0.f4.f2 x0.f4.f3 x0.f4.f4).bind fun t108 => ((laws_toIntS.f k x0.f5).bind fun t129 => ((laws_toMatrix.f k x0.f6.f0 x0.f6.f1 x0.f6.f2 x0.f6.f3 x0.f6.f4).bind fun t148 => ((laws_toMatrix.f k x0.f7.f0 x0.f7.f1 x0.f7.f2 x0.f7.f3 x0.f7.f4).bind fun t173 => (some (⟨t14, (⟨t33.1, t33.2.1, t33.2.2.1, t33.2.2.2.1, t33.2.2.2.2⟩ : S36), (⟨t58.1, t58.2.1, t58.2.2.1, t58.2.2.2.1, t58.2.2.2.2⟩ : S36), (⟨t83.1, t83.2.1, t83.2.2.1, t83.2.2.2.1, t83.2.2.2.2⟩ : S36), (⟨t108.1, t108.2.1, t108.2.2.1, t108.2.2.2.1, t108.2.2.2.2⟩ : S36), t129, (⟨t148.1, t148.2.1, t148.2.2.1, t148.2.2.2.1, t148.2.2.2.2⟩ : S36), (⟨t173.1, t173.2.1, t173.2.2.1, t173.2.2.2.1, t173.2.2.2.2⟩ : S36)⟩ : S48))))))))))
set_option maxHeartbeats 4000000 in
set_option maxRecDepth 20000 in
theorem laws_toLayer.runs (k : Nat) (cs0 : List Value) (x0 : S44) (r : S48) (w : World) (hk0 : k44.K w x0 cs0) (H : laws_toLayer.g k x0 = some r) :
    Calls Try.prog 21 #[.agg cs0.toArray] w fun e w' => ∃ (cs0_ : List Value), e = .returned (.agg cs0_.toArray) ∧ Foot (fun W => k48.K W r cs0_) w' (fun k_ => w.heap.size ≤ k_) ∧ Below w.heap.size w w' := by
  have el0 : cs0.length = 32 := k44.K_len hk0
  unfold laws_toLayer.g at H
  have HS : St (fun _ => True) w w [] [(fun W => k44.K W x0 cs0)] [] := St.start (foot_cons (foot_K h44 hk0) foot_nil)
  refine calls_W Try.func21 rfl rfl (Nat.le_of_ble_eq_true rfl) (fun R_ hR_ => ?_)
  refine WC.seq (fun K1 hK1 => ?_)
  refine WC.region ?_
  refine WL.box HS rfl rfl (by decide) rfl rfl rfl (fun b2 w3 hb2 HS => ?_)
  refine WL.alloc HS (v := .agg #[.slice none 0 0, .int .i64 0, .slice none 0 0, .slice none 0 0, .int .i64 0, .int .i64 0, .int .i64 0, .slice none 0 0, .slice none 0 0, .int .i64 0, .int .i64 0, .int .i64 0, .slice none 0 0, .slice none 0 0, .int .i64 0, .int .i64 0, .int .i64 0, .slice none 0 0, .slice none 0 0, .int .i64 0, .int .i64 0, .slice none 0 0, .int .i64 0, .slice none 0 0, .slice none 0 0, .int .i64 0, .int .i64 0, .int .i64 0, .slice none 0 0, .slice none 0 0, .int .i64 0, .int .i64 0]) (cs := #[.slice none 0 0, .int .i64 0, .slice none 0 0, .slice none 0 0, .int .i64 0, .int .i64 0, .int .i64 0, .slice none 0 0, .slice none 0 0, .int .i64 0, .int .i64 0, .int .i64 0, .slice none 0 0, .slice none 0 0, .int .i64 0, .int .i64 0, .int .i64 0, .slice none 0 0, .slice none 0 0, .int .i64 0, .int .i64 0, .slice none 0 0, .int .i64 0, .slice none 0 0, .slice none 0 0, .int .i64 0, .int .i64 0, .int .i64 0, .slice none 0 0, .slice none 0 0, .int .i64 0, .int .i64 0]) rfl rfl (by decide) rfl (by kernel_rfl) rfl (fun b4 w5 hb4 HS => ?_)
  refine WL.done ?_
  refine WQ.via (fun _ _ h_ => h_) hK1 ?_
  refine WC.seq (fun K6 hK6 => ?_)
  refine WC.region ?_
  refine WL.alloc HS (v := .agg #[.slice none 0 0, .int .i64 0, .slice none 0 0, .slice none 0 0, .int .i64 0, .int .i64 0, .int .i64 0, .slice none 0 0, .slice none 0 0, .int .i64 0, .int .i64 0, .int .i64 0, .slice none 0 0, .slice none 0 0, .int .i64 0, .int .i64 0, .int .i64 0, .slice none 0 0, .slice none 0 0, .int .i64 0, .int .i64 0, .slice none 0 0, .int .i64 0, .slice none 0 0, .slice none 0 0, .int .i64 0, .int .i64 0, .int .i64 0, .slice none 0 0, .slice none 0 0, .int .i64 0, .int .i64 0]) (cs := #[.slice none 0 0, .int .i64 0, .slice none 0 0, .slice none 0 0, .int .i64 0, .int .i64 0, .int .i64 0, .slice none 0 0, .slice none 0 0, .int .i64 0, .int .i64 0, .int .i64 0, .slice none 0 0, .slice none 0 0, .int .i64 0, .int .i64 0, .int .i64 0, .slice none 0 0, .slice none 0 0, .int .i64 0, .int .i64 0, .slice none 0 0, .int .i64 0, .slice none 0 0, .slice none 0 0, .int .i64 0, .int .i64 0, .int .i64 0, .slice none 0 0, .slice none 0 0, .int .i64 0, .int .i64 0]) rfl rfl (by decide) rfl (by kernel_rfl) rfl (fun b7 w8 hb7 HS => ?_)
  refine WL.done ?_
  refine WQ.via (fun _ _ h_ => h_) hK6 ?_
  refine WC.seq (fun K9 hK9 => ?_)
  refine WC.region ?_
  refine v_ (Run.fieldAddr rfl rfl Try.underlying44 rfl (by kernel_rfl) rfl) ?_
  obtain ⟨A10, c11, hc12, le13⟩ := (at44_0 (AtK.whole (HS.getO 0 rfl))).slice
  replace HS := HS.deriveO (p := (fun W => (Kd.int .i64).C W A10 x0.f0.length x0.f0)) (fun W_ hO_ hN_ => (at44_0 (AtK.whole (AllF.get 0 rfl hO_))).C hc12)
  refine v_ (Run.load rfl rfl Try.underlying25 rfl (box_cell (HS.mu 2 rfl) hc12)) ?_
  obtain ⟨t14, ha15, H⟩ := bind_some H
  refine c_ Try.func52 (laws_toIntS.calls k A10 c11 x0.f0 t14 _ (HS.getO 0 rfl) le13 ha15) ?_
  rintro _ w16 ⟨v17, rfl, h18, hb⟩
  obtain ⟨A19, c20, rfl, le21, hf22⟩ := res_R h18
  replace HS := HS.newNs hb (ps := [(fun W => (Kd.int .i64).C W A19 t14.length t14)]) (foot_cons hf22 foot_nil)
  refine ⟨_, rfl, ?_⟩
  clear hb
  refine v_ (Run.fieldAddr rfl rfl Try.underlying48 rfl (by kernel_rfl) rfl) ?_
  refine WL.store HS 0 rfl rfl rfl rfl rfl rfl rfl (by kernel_rfl) (Nat.le_of_ble_eq_true rfl) (cs' := #[.slice A19 t14.length c20, .int .i64 0, .slice none 0 0, .slice none 0 0, .int .i64 0, .int .i64 0, .int .i64 0, .slice none 0 0, .slice none 0 0, .int .i64 0, .int .i64 0, .int .i64 0, .slice none 0 0, .slice none 0 0, .int .i64 0, .int .i64 0, .int .i64 0, .slice none 0 0, .slice none 0 0, .int .i64 0, .int .i64 0, .slice none 0 0, .int .i64 0, .slice none 0 0, .slice none 0 0, .int .i64 0, .int .i64 0, .int .i64 0, .slice none 0 0, .slice none 0 0, .int .i64 0, .int .i64 0]) (by kernel_rfl) (fun w23 HS => ?_)
  refine WL.done ?_
  refine WQ.via (fun _ _ h_ => h_) hK9 ?_
  refine WC.seq (fun K24 hK24 => ?_)
  refine WC.region ?_
  refine v_ (Run.fieldAddr rfl rfl Try.underlying44 rfl (by kernel_rfl) rfl) ?_
  obtain ⟨A25, c26, hc27, le28⟩ := (at44_2 (AtK.whole (HS.getO 1 rfl))).slice
  replace HS := HS.deriveO (p := (fun W => (Kd.slice 3 (Kd.int .i64)).C W A25 x0.f1.f1.length x0.f1.f1)) (fun W_ hO_ hN_ => (at44_2 (AtK.whole (AllF.get 1 rfl hO_))).C hc27)
  obtain ⟨A29, c30, hc31, le32⟩ := (at44_3 (AtK.whole (HS.getO 2 rfl))).slice
  replace HS := HS.deriveO (p := (fun W => (Kd.slice 3 (Kd.int .i64)).C W A29 x0.f1.f2.length x0.f1.f2)) (fun W_ hO_ hN_ => (at44_3 (AtK.whole (AllF.get 2 rfl hO_))).C hc31)
  refine v_ (Run.loadS (cs := [.int .i64 x0.f1.f0, .slice A25 x0.f1.f1.length c26, .slice A29 x0.f1.f2.length c30, .int .i64 x0.f1.f3, .int .i64 x0.f1.f4]) rfl rfl Try.underlying27 rfl (by kernel_rfl) (box_part (HS.mu 2 rfl) (part_cons (at44_1 (AtK.whole (HS.getO 3 rfl))).int (part_cons hc27 (part_cons hc31 (part_cons (at44_4 (AtK.whole (HS.getO 3 rfl))).int (part_cons (at44_5 (AtK.whole (HS.getO 3 rfl))).int part_nil))))))) ?_
  obtain ⟨t33, ha34, H⟩ := bind_some H
  refine c_ Try.func53 (laws_toMatrix.calls k x0.f1.f0 A25 c26 x0.f1.f1 A29 c30 x0.f1.f2 x0.f1.f3 x0.f1.f4 t33.1 t33.2.1 t33.2.2.1 t33.2.2.2.1 t33.2.2.2.2 _ (HS.getO 1 rfl) le28 (HS.getO 0 rfl) le32 ha34) ?_
  rintro _ w35 ⟨v36, v42, rfl, h37, h43, hb⟩
  obtain ⟨A38, c39, rfl, le40, hf41⟩ := res_S h37
  obtain ⟨A44, c45, rfl, le46, hf47⟩ := res_S h43
  replace HS := HS.newNs hb (ps := [(fun W => (Kd.slice 3 (Kd.int .i64)).C W A38 t33.2.1.length t33.2.1), (fun W => (Kd.slice 3 (Kd.int .i64)).C W A44 t33.2.2.1.length t33.2.2.1)]) (foot_cons hf41 (foot_cons hf47 foot_nil))
  refine ⟨_, rfl, ?_⟩
  clear hb
  refine v_ (Run.fieldAddr rfl rfl Try.underlying48 rfl (by kernel_rfl) rfl) ?_
  refine WL.storeS HS 0 (vs := [.int .i64 t33.1, .slice A38 t33.2.1.length c39, .slice A44 t33.2.2.1.length c45, .int .i64 t33.2.2.2.1, .int .i64 t33.2.2.2.2]) rfl rfl rfl rfl rfl rfl (one_cons rfl (one_cons rfl (one_cons rfl (one_cons rfl (one_cons rfl one_nil))))) (by kernel_rfl) (Nat.le_of_ble_eq_true rfl) (cs' := #[.slice A19 t14.length c20, .int .i64 t33.1, .slice A38 t33.2.1.length c39, .slice A44 t33.2.2.1.length c45, .int .i64 t33.2.2.2.1, .int .i64 t33.2.2.2.2, .int .i64 0, .slice none 0 0, .slice none 0 0, .int .i64 0, .int .i64 0, .int .i64 0, .slice none 0 0, .slice none 0 0, .int .i64 0, .int .i64 0, .int .i64 0, .slice none 0 0, .slice none 0 0, .int .i64 0, .int .i64 0, .slice none 0 0, .int .i64 0, .slice none 0 0, .slice none 0 0, .int .i64 0, .int .i64 0, .int .i64 0, .slice none 0 0, .slice none 0 0, .int .i64 0, .int .i64 0]) (by kernel_rfl) (fun w48 HS => ?_)
  refine WL.done ?_
  refine WQ.via (fun _ _ h_ => h_) hK24 ?_
  refine WC.seq (fun K49 hK49 => ?_)
  refine WC.region ?_
  refine v_ (Run.fieldAddr rfl rfl Try.underlying44 rfl (by kernel_rfl) rfl) ?_
  obtain ⟨A50, c51, hc52, le53⟩ := (at44_7 (AtK.whole (HS.getO 3 rfl))).slice
  replace HS := HS.deriveO (p := (fun W => (Kd.slice 3 (Kd.int .i64)).C W A50 x0.f2.f1.length x0.f2.f1)) (fun W_ hO_ hN_ => (at44_7 (AtK.whole (AllF.get 3 rfl hO_))).C hc52)
  obtain ⟨A54, c55, hc56, le57⟩ := (at44_8 (AtK.whole (HS.getO 4 rfl))).slice
  replace HS := HS.deriveO (p := (fun W => (Kd.slice 3 (Kd.int .i64)).C W A54 x0.f2.f2.length x0.f2.f2)) (fun W_ hO_ hN_ => (at44_8 (AtK.whole (AllF.get 4 rfl hO_))).C hc56)
  refine v_ (Run.loadS (cs := [.int .i64 x0.f2.f0, .slice A50 x0.f2.f1.length c51, .slice A54 x0.f2.f2.length c55, .int .i64 x0.f2.f3, .int .i64 x0.f2.f4]) rfl rfl Try.underlying27 rfl (by kernel_rfl) (box_part (HS.mu 2 rfl) (part_cons (at44_6 (AtK.whole (HS.getO 5 rfl))).int (part_cons hc52 (part_cons hc56 (part_cons (at44_9 (AtK.whole (HS.getO 5 rfl))).int (part_cons (at44_10 (AtK.whole (HS.getO 5 rfl))).int part_nil))))))) ?_
  obtain ⟨t58, ha59, H⟩ := bind_some H
  refine c_ Try.func53 (laws_toMatrix.calls k x0.f2.f0 A50 c51 x0.f2.f1 A54 c55 x0.f2.f2 x0.f2.f3 x0.f2.f4 t58.1 t58.2.1 t58.2.2.1 t58.2.2.2.1 t58.2.2.2.2 _ (HS.getO 1 rfl) le53 (HS.getO 0 rfl) le57 ha59) ?_
  rintro _ w60 ⟨v61, v67, rfl, h62, h68, hb⟩
  obtain ⟨A63, c64, rfl, le65, hf66⟩ := res_S h62
  obtain ⟨A69, c70, rfl, le71, hf72⟩ := res_S h68
  replace HS := HS.newNs hb (ps := [(fun W => (Kd.slice 3 (Kd.int .i64)).C W A63 t58.2.1.length t58.2.1), (fun W => (Kd.slice 3 (Kd.int .i64)).C W A69 t58.2.2.1.length t58.2.2.1)]) (foot_cons hf66 (foot_cons hf72 foot_nil))
  refine ⟨_, rfl, ?_⟩
  clear hb
  refine v_ (Run.fieldAddr rfl rfl Try.underlying48 rfl (by kernel_rfl) rfl) ?_
  refine WL.storeS HS 0 (vs := [.int .i64 t58.1, .slice A63 t58.2.1.length c64, .slice A69 t58.2.2.1.length c70, .int .i64 t58.2.2.2.1, .int .i64 t58.2.2.2.2]) rfl rfl rfl rfl rfl rfl (one_cons rfl (one_cons rfl (one_cons rfl (one_cons rfl (one_cons rfl one_nil))))) (by kernel_rfl) (Nat.le_of_ble_eq_true rfl) (cs' := #[.slice A19 t14.length c20, .int .i64 t33.1, .slice A38 t33.2.1.length c39, .slice A44 t33.2.2.1.length c45, .int .i64 t33.2.2.2.1, .int .i64 t33.2.2.2.2, .int .i64 t58.1, .slice A63 t58.2.1.length c64, .slice A69 t58.2.2.1.length c70, .int .i64 t58.2.2.2.1, .int .i64 t58.2.2.2.2, .int .i64 0, .slice none 0 0, .slice none 0 0, .int .i64 0, .int .i64 0, .int .i64 0, .slice none 0 0, .slice none 0 0, .int .i64 0, .int .i64 0, .slice none 0 0, .int .i64 0, .slice none 0 0, .slice none 0 0, .int .i64 0, .int .i64 0, .int .i64 0, .slice none 0 0, .slice none 0 0, .int .i64 0, .int .i64 0]) (by kernel_rfl) (fun w73 HS => ?_)
  refine WL.done ?_
  refine WQ.via (fun _ _ h_ => h_) hK49 ?_
  refine WC.seq (fun K74 hK74 => ?_)
  refine WC.region ?_
  refine v_ (Run.fieldAddr rfl rfl Try.underlying44 rfl (by kernel_rfl) rfl) ?_
  obtain ⟨A75, c76, hc77, le78⟩ := (at44_12 (AtK.whole (HS.getO 5 rfl))).slice
  replace HS := HS.deriveO (p := (fun W => (Kd.slice 3 (Kd.int .i64)).C W A75 x0.f3.f1.length x0.f3.f1)) (fun W_ hO_ hN_ => (at44_12 (AtK.whole (AllF.get 5 rfl hO_))).C hc77)
  obtain ⟨A79, c80, hc81, le82⟩ := (at44_13 (AtK.whole (HS.getO 6 rfl))).slice
  replace HS := HS.deriveO (p := (fun W => (Kd.slice 3 (Kd.int .i64)).C W A79 x0.f3.f2.length x0.f3.f2)) (fun W_ hO_ hN_ => (at44_13 (AtK.whole (AllF.get 6 rfl hO_))).C hc81)
  refine v_ (Run.loadS (cs := [.int .i64 x0.f3.f0, .slice A75 x0.f3.f1.length c76, .slice A79 x0.f3.f2.length c80, .int .i64 x0.f3.f3, .int .i64 x0.f3.f4]) rfl rfl Try.underlying27 rfl (by kernel_rfl) (box_part (HS.mu 2 rfl) (part_cons (at44_11 (AtK.whole (HS.getO 7 rfl))).int (part_cons hc77 (part_cons hc81 (part_cons (at44_14 (AtK.whole (HS.getO 7 rfl))).int (part_cons (at44_15 (AtK.whole (HS.getO 7 rfl))).int part_nil))))))) ?_
  obtain ⟨t83, ha84, H⟩ := bind_some H
  refine c_ Try.func53 (laws_toMatrix.calls k x0.f3.f0 A75 c76 x0.f3.f1 A79 c80 x0.f3.f2 x0.f3.f3 x0.f3.f4 t83.1 t83.2.1 t83.2.2.1 t83.2.2.2.1 t83.2.2.2.2 _ (HS.getO 1 rfl) le78 (HS.getO 0 rfl) le82 ha84) ?_
  rintro _ w85 ⟨v86, v92, rfl, h87, h93, hb⟩
  obtain ⟨A88, c89, rfl, le90, hf91⟩ := res_S h87
  obtain ⟨A94, c95, rfl, le96, hf97⟩ := res_S h93
  replace HS := HS.newNs hb (ps := [(fun W => (Kd.slice 3 (Kd.int .i64)).C W A88 t83.2.1.length t83.2.1), (fun W => (Kd.slice 3 (Kd.int .i64)).C W A94 t83.2.2.1.length t83.2.2.1)]) (foot_cons hf91 (foot_cons hf97 foot_nil))
  refine ⟨_, rfl, ?_⟩
  clear hb
  refine v_ (Run.fieldAddr rfl rfl Try.underlying48 rfl (by kernel_rfl) rfl) ?_
  refine WL.storeS HS 0 (vs := [.int .i64 t83.1, .slice A88 t83.2.1.length c89, .slice A94 t83.2.2.1.length c95, .int .i64 t83.2.2.2.1, .int .i64 t83.2.2.2.2]) rfl rfl rfl rfl rfl rfl (one_cons rfl (one_cons rfl (one_cons rfl (one_cons rfl (one_cons rfl one_nil))))) (by kernel_rfl) (Nat.le_of_ble_eq_true rfl) (cs' := #[.slice A19 t14.length c20, .int .i64 t33.1, .slice A38 t33.2.1.length c39, .slice A44 t33.2.2.1.length c45, .int .i64 t33.2.2.2.1, .int .i64 t33.2.2.2.2, .int .i64 t58.1, .slice A63 t58.2.1.length c64, .slice A69 t58.2.2.1.length c70, .int .i64 t58.2.2.2.1, .int .i64 t58.2.2.2.2, .int .i64 t83.1, .slice A88 t83.2.1.length c89, .slice A94 t83.2.2.1.length c95, .int .i64 t83.2.2.2.1, .int .i64 t83.2.2.2.2, .int .i64 0, .slice none 0 0, .slice none 0 0, .int .i64 0, .int .i64 0, .slice none 0 0, .int .i64 0, .slice none 0 0, .slice none 0 0, .int .i64 0, .int .i64 0, .int .i64 0, .slice none 0 0, .slice none 0 0, .int .i64 0, .int .i64 0]) (by kernel_rfl) (fun w98 HS => ?_)
  refine WL.done ?_
  refine WQ.via (fun _ _ h_ => h_) hK74 ?_
  refine WC.seq (fun K99 hK99 => ?_)
  refine WC.region ?_
  refine v_ (Run.fieldAddr rfl rfl Try.underlying44 rfl (by kernel_rfl) rfl) ?_
  obtain ⟨A100, c101, hc102, le103⟩ := (at44_17 (AtK.whole (HS.getO 7 rfl))).slice
  replace HS := HS.deriveO (p := (fun W => (Kd.slice 3 (Kd.int .i64)).C W A100 x0.f4.f1.length x0.f4.f1)) (fun W_ hO_ hN_ => (at44_17 (AtK.whole (AllF.get 7 rfl hO_))).C hc102)
  obtain ⟨A104, c105, hc106, le107⟩ := (at44_18 (AtK.whole (HS.getO 8 rfl))).slice
  replace HS := HS.deriveO (p := (fun W => (Kd.slice 3 (Kd.int .i64)).C W A104 x0.f4.f2.length x0.f4.f2)) (fun W_ hO_ hN_ => (at44_18 (AtK.whole (AllF.get 8 rfl hO_))).C hc106)
  refine v_ (Run.loadS (cs := [.int .i64 x0.f4.f0, .slice A100 x0.f4.f1.length c101, .slice A104 x0.f4.f2.length c105, .int .i64 x0.f4.f3, .int .i64 x0.f4.f4]) rfl rfl Try.underlying27 rfl (by kernel_rfl) (box_part (HS.mu 2 rfl) (part_cons (at44_16 (AtK.whole (HS.getO 9 rfl))).int (part_cons hc102 (part_cons hc106 (part_cons (at44_19 (AtK.whole (HS.getO 9 rfl))).int (part_cons (at44_20 (AtK.whole (HS.getO 9 rfl))).int part_nil))))))) ?_
  obtain ⟨t108, ha109, H⟩ := bind_some H
  refine c_ Try.func53 (laws_toMatrix.calls k x0.f4.f0 A100 c101 x0.f4.f1 A104 c105 x0.f4.f2 x0.f4.f3 x0.f4.f4 t108.1 t108.2.1 t108.2.2.1 t108.2.2.2.1 t108.2.2.2.2 _ (HS.getO 1 rfl) le103 (HS.getO 0 rfl) le107 ha109) ?_
  rintro _ w110 ⟨v111, v117, rfl, h112, h118, hb⟩
  obtain ⟨A113, c114, rfl, le115, hf116⟩ := res_S h112
  obtain ⟨A119, c120, rfl, le121, hf122⟩ := res_S h118
  replace HS := HS.newNs hb (ps := [(fun W => (Kd.slice 3 (Kd.int .i64)).C W A113 t108.2.1.length t108.2.1), (fun W => (Kd.slice 3 (Kd.int .i64)).C W A119 t108.2.2.1.length t108.2.2.1)]) (foot_cons hf116 (foot_cons hf122 foot_nil))
  refine ⟨_, rfl, ?_⟩
  clear hb
  refine v_ (Run.fieldAddr rfl rfl Try.underlying48 rfl (by kernel_rfl) rfl) ?_
  refine WL.storeS HS 0 (vs := [.int .i64 t108.1, .slice A113 t108.2.1.length c114, .slice A119 t108.2.2.1.length c120, .int .i64 t108.2.2.2.1, .int .i64 t108.2.2.2.2]) rfl rfl rfl rfl rfl rfl (one_cons rfl (one_cons rfl (one_cons rfl (one_cons rfl (one_cons rfl one_nil))))) (by kernel_rfl) (Nat.le_of_ble_eq_true rfl) (cs' := #[.slice A19 t14.length c20, .int .i64 t33.1, .slice A38 t33.2.1.length c39, .slice A44 t33.2.2.1.length c45, .int .i64 t33.2.2.2.1, .int .i64 t33.2.2.2.2, .int .i64 t58.1, .slice A63 t58.2.1.length c64, .slice A69 t58.2.2.1.length c70, .int .i64 t58.2.2.2.1, .int .i64 t58.2.2.2.2, .int .i64 t83.1, .slice A88 t83.2.1.length c89, .slice A94 t83.2.2.1.length c95, .int .i64 t83.2.2.2.1, .int .i64 t83.2.2.2.2, .int .i64 t108.1, .slice A113 t108.2.1.length c114, .slice A119 t108.2.2.1.length c120, .int .i64 t108.2.2.2.1, .int .i64 t108.2.2.2.2, .slice none 0 0, .int .i64 0, .slice none 0 0, .slice none 0 0, .int .i64 0, .int .i64 0, .int .i64 0, .slice none 0 0, .slice none 0 0, .int .i64 0, .int .i64 0]) (by kernel_rfl) (fun w123 HS => ?_)
  refine WL.done ?_
  refine WQ.via (fun _ _ h_ => h_) hK99 ?_
  refine WC.seq (fun K124 hK124 => ?_)
  refine WC.region ?_
  refine v_ (Run.fieldAddr rfl rfl Try.underlying44 rfl (by kernel_rfl) rfl) ?_
  obtain ⟨A125, c126, hc127, le128⟩ := (at44_21 (AtK.whole (HS.getO 9 rfl))).slice
  replace HS := HS.deriveO (p := (fun W => (Kd.int .i64).C W A125 x0.f5.length x0.f5)) (fun W_ hO_ hN_ => (at44_21 (AtK.whole (AllF.get 9 rfl hO_))).C hc127)
  refine v_ (Run.load rfl rfl Try.underlying25 rfl (box_cell (HS.mu 2 rfl) hc127)) ?_
  obtain ⟨t129, ha130, H⟩ := bind_some H
  refine c_ Try.func52 (laws_toIntS.calls k A125 c126 x0.f5 t129 _ (HS.getO 0 rfl) le128 ha130) ?_
  rintro _ w131 ⟨v132, rfl, h133, hb⟩
  obtain ⟨A134, c135, rfl, le136, hf137⟩ := res_R h133
  replace HS := HS.newNs hb (ps := [(fun W => (Kd.int .i64).C W A134 t129.length t129)]) (foot_cons hf137 foot_nil)
  refine ⟨_, rfl, ?_⟩
  clear hb
  refine v_ (Run.fieldAddr rfl rfl Try.underlying48 rfl (by kernel_rfl) rfl) ?_
  refine WL.store HS 0 rfl rfl rfl rfl rfl rfl rfl (by kernel_rfl) (Nat.le_of_ble_eq_true rfl) (cs' := #[.slice A19 t14.length c20, .int .i64 t33.1, .slice A38 t33.2.1.length c39, .slice A44 t33.2.2.1.length c45, .int .i64 t33.2.2.2.1, .int .i64 t33.2.2.2.2, .int .i64 t58.1, .slice A63 t58.2.1.length c64, .slice A69 t58.2.2.1.length c70, .int .i64 t58.2.2.2.1, .int .i64 t58.2.2.2.2, .int .i64 t83.1, .slice A88 t83.2.1.length c89, .slice A94 t83.2.2.1.length c95, .int .i64 t83.2.2.2.1, .int .i64 t83.2.2.2.2, .int .i64 t108.1, .slice A113 t108.2.1.length c114, .slice A119 t108.2.2.1.length c120, .int .i64 t108.2.2.2.1, .int .i64 t108.2.2.2.2, .slice A134 t129.length c135, .int .i64 0, .slice none 0 0, .slice none 0 0, .int .i64 0, .int .i64 0, .int .i64 0, .slice none 0 0, .slice none 0 0, .int .i64 0, .int .i64 0]) (by kernel_rfl) (fun w138 HS => ?_)
  refine WL.done ?_
  refine WQ.via (fun _ _ h_ => h_) hK124 ?_
  refine WC.seq (fun K139 hK139 => ?_)
  refine WC.region ?_
  refine v_ (Run.fieldAddr rfl rfl Try.underlying44 rfl (by kernel_rfl) rfl) ?_
  obtain ⟨A140, c141, hc142, le143⟩ := (at44_23 (AtK.whole (HS.getO 10 rfl))).slice
  replace HS := HS.deriveO (p := (fun W => (Kd.slice 3 (Kd.int .i64)).C W A140 x0.f6.f1.length x0.f6.f1)) (fun W_ hO_ hN_ => (at44_23 (AtK.whole (AllF.get 10 rfl hO_))).C hc142)
  obtain ⟨A144, c145, hc146, le147⟩ := (at44_24 (AtK.whole (HS.getO 11 rfl))).slice
  replace HS := HS.deriveO (p := (fun W => (Kd.slice 3 (Kd.int .i64)).C W A144 x0.f6.f2.length x0.f6.f2)) (fun W_ hO_ hN_ => (at44_24 (AtK.whole (AllF.get 11 rfl hO_))).C hc146)
  refine v_ (Run.loadS (cs := [.int .i64 x0.f6.f0, .slice A140 x0.f6.f1.length c141, .slice A144 x0.f6.f2.length c145, .int .i64 x0.f6.f3, .int .i64 x0.f6.f4]) rfl rfl Try.underlying27 rfl (by kernel_rfl) (box_part (HS.mu 2 rfl) (part_cons (at44_22 (AtK.whole (HS.getO 12 rfl))).int (part_cons hc142 (part_cons hc146 (part_cons (at44_25 (AtK.whole (HS.getO 12 rfl))).int (part_cons (at44_26 (AtK.whole (HS.getO 12 rfl))).int part_nil))))))) ?_
  obtain ⟨t148, ha149, H⟩ := bind_some H
  refine c_ Try.func53 (laws_toMatrix.calls k x0.f6.f0 A140 c141 x0.f6.f1 A144 c145 x0.f6.f2 x0.f6.f3 x0.f6.f4 t148.1 t148.2.1 t148.2.2.1 t148.2.2.2.1 t148.2.2.2.2 _ (HS.getO 1 rfl) le143 (HS.getO 0 rfl) le147 ha149) ?_
  rintro _ w150 ⟨v151, v157, rfl, h152, h158, hb⟩
  obtain ⟨A153, c154, rfl, le155, hf156⟩ := res_S h152
  obtain ⟨A159, c160, rfl, le161, hf162⟩ := res_S h158
  replace HS := HS.newNs hb (ps := [(fun W => (Kd.slice 3 (Kd.int .i64)).C W A153 t148.2.1.length t148.2.1), (fun W => (Kd.slice 3 (Kd.int .i64)).C W A159 t148.2.2.1.length t148.2.2.1)]) (foot_cons hf156 (foot_cons hf162 foot_nil))
  refine ⟨_, rfl, ?_⟩
  clear hb
  refine v_ (Run.fieldAddr rfl rfl Try.underlying48 rfl (by kernel_rfl) rfl) ?_
  refine WL.storeS HS 0 (vs := [.int .i64 t148.1, .slice A153 t148.2.1.length c154, .slice A159 t148.2.2.1.length c160, .int .i64 t148.2.2.2.1, .int .i64 t148.2.2.2.2]) rfl rfl rfl rfl rfl rfl (one_cons rfl (one_cons rfl (one_cons rfl (one_cons rfl (one_cons rfl one_nil))))) (by kernel_rfl) (Nat.le_of_ble_eq_true rfl) (cs' := #[.slice A19 t14.length c20, .int .i64 t33.1, .slice A38 t33.2.1.length c39, .slice A44 t33.2.2.1.length c45, .int .i64 t33.2.2.2.1, .int .i64 t33.2.2.2.2, .int .i64 t58.1, .slice A63 t58.2.1.length c64, .slice A69 t58.2.2.1.length c70, .int .i64 t58.2.2.2.1, .int .i64 t58.2.2.2.2, .int .i64 t83.1, .slice A88 t83.2.1.length c89, .slice A94 t83.2.2.1.length c95, .int .i64 t83.2.2.2.1, .int .i64 t83.2.2.2.2, .int .i64 t108.1, .slice A113 t108.2.1.length c114, .slice A119 t108.2.2.1.length c120, .int .i64 t108.2.2.2.1, .int .i64 t108.2.2.2.2, .slice A134 t129.length c135, .int .i64 t148.1, .slice A153 t148.2.1.length c154, .slice A159 t148.2.2.1.length c160, .int .i64 t148.2.2.2.1, .int .i64 t148.2.2.2.2, .int .i64 0, .slice none 0 0, .slice none 0 0, .int .i64 0, .int .i64 0]) (by kernel_rfl) (fun w163 HS => ?_)
  refine WL.done ?_
  refine WQ.via (fun _ _ h_ => h_) hK139 ?_
  refine WC.seq (fun K164 hK164 => ?_)
  refine WC.region ?_
  refine v_ (Run.fieldAddr rfl rfl Try.underlying44 rfl (by kernel_rfl) rfl) ?_
  obtain ⟨A165, c166, hc167, le168⟩ := (at44_28 (AtK.whole (HS.getO 12 rfl))).slice
  replace HS := HS.deriveO (p := (fun W => (Kd.slice 3 (Kd.int .i64)).C W A165 x0.f7.f1.length x0.f7.f1)) (fun W_ hO_ hN_ => (at44_28 (AtK.whole (AllF.get 12 rfl hO_))).C hc167)
  obtain ⟨A169, c170, hc171, le172⟩ := (at44_29 (AtK.whole (HS.getO 13 rfl))).slice
  replace HS := HS.deriveO (p := (fun W => (Kd.slice 3 (Kd.int .i64)).C W A169 x0.f7.f2.length x0.f7.f2)) (fun W_ hO_ hN_ => (at44_29 (AtK.whole (AllF.get 13 rfl hO_))).C hc171)
  refine v_ (Run.loadS (cs := [.int .i64 x0.f7.f0, .slice A165 x0.f7.f1.length c166, .slice A169 x0.f7.f2.length c170, .int .i64 x0.f7.f3, .int .i64 x0.f7.f4]) rfl rfl Try.underlying27 rfl (by kernel_rfl) (box_part (HS.mu 2 rfl) (part_cons (at44_27 (AtK.whole (HS.getO 14 rfl))).int (part_cons hc167 (part_cons hc171 (part_cons (at44_30 (AtK.whole (HS.getO 14 rfl))).int (part_cons (at44_31 (AtK.whole (HS.getO 14 rfl))).int part_nil))))))) ?_
  obtain ⟨t173, ha174, H⟩ := bind_some H
  refine c_ Try.func53 (laws_toMatrix.calls k x0.f7.f0 A165 c166 x0.f7.f1 A169 c170 x0.f7.f2 x0.f7.f3 x0.f7.f4 t173.1 t173.2.1 t173.2.2.1 t173.2.2.2.1 t173.2.2.2.2 _ (HS.getO 1 rfl) le168 (HS.getO 0 rfl) le172 ha174) ?_
  rintro _ w175 ⟨v176, v182, rfl, h177, h183, hb⟩
  obtain ⟨A178, c179, rfl, le180, hf181⟩ := res_S h177
  obtain ⟨A184, c185, rfl, le186, hf187⟩ := res_S h183
  replace HS := HS.newNs hb (ps := [(fun W => (Kd.slice 3 (Kd.int .i64)).C W A178 t173.2.1.length t173.2.1), (fun W => (Kd.slice 3 (Kd.int .i64)).C W A184 t173.2.2.1.length t173.2.2.1)]) (foot_cons hf181 (foot_cons hf187 foot_nil))
  refine ⟨_, rfl, ?_⟩
  clear hb
  refine v_ (Run.fieldAddr rfl rfl Try.underlying48 rfl (by kernel_rfl) rfl) ?_
  refine WL.storeS HS 0 (vs := [.int .i64 t173.1, .slice A178 t173.2.1.length c179, .slice A184 t173.2.2.1.length c185, .int .i64 t173.2.2.2.1, .int .i64 t173.2.2.2.2]) rfl rfl rfl rfl rfl rfl (one_cons rfl (one_cons rfl (one_cons rfl (one_cons rfl (one_cons rfl one_nil))))) (by kernel_rfl) (Nat.le_of_ble_eq_true rfl) (cs' := #[.slice A19 t14.length c20, .int .i64 t33.1, .slice A38 t33.2.1.length c39, .slice A44 t33.2.2.1.length c45, .int .i64 t33.2.2.2.1, .int .i64 t33.2.2.2.2, .int .i64 t58.1, .slice A63 t58.2.1.length c64, .slice A69 t58.2.2.1.length c70, .int .i64 t58.2.2.2.1, .int .i64 t58.2.2.2.2, .int .i64 t83.1, .slice A88 t83.2.1.length c89, .slice A94 t83.2.2.1.length c95, .int .i64 t83.2.2.2.1, .int .i64 t83.2.2.2.2, .int .i64 t108.1, .slice A113 t108.2.1.length c114, .slice A119 t108.2.2.1.length c120, .int .i64 t108.2.2.2.1, .int .i64 t108.2.2.2.2, .slice A134 t129.length c135, .int .i64 t148.1, .slice A153 t148.2.1.length c154, .slice A159 t148.2.2.1.length c160, .int .i64 t148.2.2.2.1, .int .i64 t148.2.2.2.2, .int .i64 t173.1, .slice A178 t173.2.1.length c179, .slice A184 t173.2.2.1.length c185, .int .i64 t173.2.2.2.1, .int .i64 t173.2.2.2.2]) (by kernel_rfl) (fun w188 HS => ?_)
  refine WL.done ?_
  refine WQ.via (fun _ _ h_ => h_) hK164 ?_
  refine WC.seq (fun K189 hK189 => ?_)
  refine WC.region ?_
  refine v_ (Run.loadS (cs := [.slice A19 t14.length c20, .int .i64 t33.1, .slice A38 t33.2.1.length c39, .slice A44 t33.2.2.1.length c45, .int .i64 t33.2.2.2.1, .int .i64 t33.2.2.2.2, .int .i64 t58.1, .slice A63 t58.2.1.length c64, .slice A69 t58.2.2.1.length c70, .int .i64 t58.2.2.2.1, .int .i64 t58.2.2.2.2, .int .i64 t83.1, .slice A88 t83.2.1.length c89, .slice A94 t83.2.2.1.length c95, .int .i64 t83.2.2.2.1, .int .i64 t83.2.2.2.2, .int .i64 t108.1, .slice A113 t108.2.1.length c114, .slice A119 t108.2.2.1.length c120, .int .i64 t108.2.2.2.1, .int .i64 t108.2.2.2.2, .slice A134 t129.length c135, .int .i64 t148.1, .slice A153 t148.2.1.length c154, .slice A159 t148.2.2.1.length c160, .int .i64 t148.2.2.2.1, .int .i64 t148.2.2.2.2, .int .i64 t173.1, .slice A178 t173.2.1.length c179, .slice A184 t173.2.2.1.length c185, .int .i64 t173.2.2.2.1, .int .i64 t173.2.2.2.2]) rfl rfl Try.underlying48 rfl (by kernel_rfl) (box_part (HS.mu 0 rfl) part_all)) ?_
  refine WL.storeS HS 1 (vs := [.slice A19 t14.length c20, .int .i64 t33.1, .slice A38 t33.2.1.length c39, .slice A44 t33.2.2.1.length c45, .int .i64 t33.2.2.2.1, .int .i64 t33.2.2.2.2, .int .i64 t58.1, .slice A63 t58.2.1.length c64, .slice A69 t58.2.2.1.length c70, .int .i64 t58.2.2.2.1, .int .i64 t58.2.2.2.2, .int .i64 t83.1, .slice A88 t83.2.1.length c89, .slice A94 t83.2.2.1.length c95, .int .i64 t83.2.2.2.1, .int .i64 t83.2.2.2.2, .int .i64 t108.1, .slice A113 t108.2.1.length c114, .slice A119 t108.2.2.1.length c120, .int .i64 t108.2.2.2.1, .int .i64 t108.2.2.2.2, .slice A134 t129.length c135, .int .i64 t148.1, .slice A153 t148.2.1.length c154, .slice A159 t148.2.2.1.length c160, .int .i64 t148.2.2.2.1, .int .i64 t148.2.2.2.2, .int .i64 t173.1, .slice A178 t173.2.1.length c179, .slice A184 t173.2.2.1.length c185, .int .i64 t173.2.2.2.1, .int .i64 t173.2.2.2.2]) rfl rfl rfl rfl rfl rfl (one_cons rfl (one_cons rfl (one_cons rfl (one_cons rfl (one_cons rfl (one_cons rfl (one_cons rfl (one_cons rfl (one_cons rfl (one_cons rfl (one_cons rfl (one_cons rfl (one_cons rfl (one_cons rfl (one_cons rfl (one_cons rfl (one_cons rfl (one_cons rfl (one_cons rfl (one_cons rfl (one_cons rfl (one_cons rfl (one_cons rfl (one_cons rfl (one_cons rfl (one_cons rfl (one_cons rfl (one_cons rfl (one_cons rfl (one_cons rfl (one_cons rfl (one_cons rfl one_nil)))))))))))))))))))))))))))))))) (by kernel_rfl) (Nat.le_of_ble_eq_true rfl) (cs' := #[.slice A19 t14.length c20, .int .i64 t33.1, .slice A38 t33.2.1.length c39, .slice A44 t33.2.2.1.length c45, .int .i64 t33.2.2.2.1, .int .i64 t33.2.2.2.2, .int .i64 t58.1, .slice A63 t58.2.1.length c64, .slice A69 t58.2.2.1.length c70, .int .i64 t58.2.2.2.1, .int .i64 t58.2.2.2.2, .int .i64 t83.1, .slice A88 t83.2.1.length c89, .slice A94 t83.2.2.1.length c95, .int .i64 t83.2.2.2.1, .int .i64 t83.2.2.2.2, .int .i64 t108.1, .slice A113 t108.2.1.length c114, .slice A119 t108.2.2.1.length c120, .int .i64 t108.2.2.2.1, .int .i64 t108.2.2.2.2, .slice A134 t129.length c135, .int .i64 t148.1, .slice A153 t148.2.1.length c154, .slice A159 t148.2.2.1.length c160, .int .i64 t148.2.2.2.1, .int .i64 t148.2.2.2.2, .int .i64 t173.1, .slice A178 t173.2.1.length c179, .slice A184 t173.2.2.1.length c185, .int .i64 t173.2.2.2.1, .int .i64 t173.2.2.2.2]) (by kernel_rfl) (fun w190 HS => ?_)
  refine WL.done ?_
  refine WQ.via (fun _ _ h_ => h_) hK189 ?_
  refine WC.ret ?_
  replace HS := HS.deriveN (p := (fun W => k48.K W (⟨t14, (⟨t33.1, t33.2.1, t33.2.2.1, t33.2.2.2.1, t33.2.2.2.2⟩ : S36), (⟨t58.1, t58.2.1, t58.2.2.1, t58.2.2.2.1, t58.2.2.2.2⟩ : S36), (⟨t83.1, t83.2.1, t83.2.2.1, t83.2.2.2.1, t83.2.2.2.2⟩ : S36), (⟨t108.1, t108.2.1, t108.2.2.1, t108.2.2.2.1, t108.2.2.2.2⟩ : S36), t129, (⟨t148.1, t148.2.1, t148.2.2.1, t148.2.2.2.1, t148.2.2.2.2⟩ : S36), (⟨t173.1, t173.2.1, t173.2.2.1, t173.2.2.2.1, t173.2.2.2.2⟩ : S36)⟩ : S48) [.slice A19 t14.length c20, .int .i64 t33.1, .slice A38 t33.2.1.length c39, .slice A44 t33.2.2.1.length c45, .int .i64 t33.2.2.2.1, .int .i64 t33.2.2.2.2, .int .i64 t58.1, .slice A63 t58.2.1.length c64, .slice A69 t58.2.2.1.length c70, .int .i64 t58.2.2.2.1, .int .i64 t58.2.2.2.2, .int .i64 t83.1, .slice A88 t83.2.1.length c89, .slice A94 t83.2.2.1.length c95, .int .i64 t83.2.2.2.1, .int .i64 t83.2.2.2.2, .int .i64 t108.1, .slice A113 t108.2.1.length c114, .slice A119 t108.2.2.1.length c120, .int .i64 t108.2.2.2.1, .int .i64 t108.2.2.2.2, .slice A134 t129.length c135, .int .i64 t148.1, .slice A153 t148.2.1.length c154, .slice A159 t148.2.2.1.length c160, .int .i64 t148.2.2.2.1, .int .i64 t148.2.2.2.2, .int .i64 t173.1, .slice A178 t173.2.1.length c179, .slice A184 t173.2.2.1.length c185, .int .i64 t173.2.2.2.1, .int .i64 t173.2.2.2.2])) (fun W_ hN_ => (k48_mk _ (⟨t14, (⟨t33.1, t33.2.1, t33.2.2.1, t33.2.2.2.1, t33.2.2.2.2⟩ : S36), (⟨t58.1, t58.2.1, t58.2.2.1, t58.2.2.2.1, t58.2.2.2.2⟩ : S36), (⟨t83.1, t83.2.1, t83.2.2.1, t83.2.2.2.1, t83.2.2.2.2⟩ : S36), (⟨t108.1, t108.2.1, t108.2.2.1, t108.2.2.2.1, t108.2.2.2.2⟩ : S36), t129, (⟨t148.1, t148.2.1, t148.2.2.1, t148.2.2.2.1, t148.2.2.2.2⟩ : S36), (⟨t173.1, t173.2.1, t173.2.2.1, t173.2.2.2.1, t173.2.2.2.2⟩ : S36)⟩ : S48) (le21) (AllF.get 13 rfl hN_) (le40) (AllF.get 11 rfl hN_) (le46) (AllF.get 12 rfl hN_) (le65) (AllF.get 9 rfl hN_) (le71) (AllF.get 10 rfl hN_) (le90) (AllF.get 7 rfl hN_) (le96) (AllF.get 8 rfl hN_) (le115) (AllF.get 5 rfl hN_) (le121) (AllF.get 6 rfl hN_) (le136) (AllF.get 4 rfl hN_) (le155) (AllF.get 2 rfl hN_) (le161) (AllF.get 3 rfl hN_) (le180) (AllF.get 0 rfl hN_) (le186) (AllF.get 1 rfl hN_)))
  obtain rfl := Option.some.inj H
  refine WQ.fin (e' := .ret) (fn := Try.f21) (fun _ _ h_ => h_) (WQ.ret1 rfl ⟨_, rfl, resv_box (HS.mu 1 rfl) Try.underlying48 rfl (by kernel_rfl)⟩ ?_)
  exact hR_ _ _ ⟨_, rfl, (foot_fresh (HS.footN 0 rfl)), HS.b⟩
end Go.Proofs.Ytacbkcofcbglhaa.PFnExactLayerOk
