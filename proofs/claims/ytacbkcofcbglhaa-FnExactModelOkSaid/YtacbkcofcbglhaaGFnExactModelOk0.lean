/- Functions that the statement reaches, as Lean functions, and the proof that a call of each comes to just its answer; written by this claim's own program. No conditions. -/
import Derived.Test.YtacbkcofcbglhaaPFnExactModelOkx0
import Derived.Test.YtacbkcofcbglhaaPFnExactModelOkx1
import Derived.Test.YtacbkcofcbglhaaPFnExactModelOkx2
import Derived.Test.YtacbkcofcbglhaaPFnExactModelOkx3
import Derived.Test.YtacbkcofcbglhaaPFnExactModelOkx4
import Derived.Test.YtacbkcofcbglhaaPFnExactModelOkx5
import Derived.Test.YtacbkcofcbglhaaPFnExactModelOkx6
import Derived.Test.YtacbkcofcbglhaaPFnExactModelOkx7
import Derived.Test.YtacbkcofcbglhaaPFnExactModelOkx8
import Derived.Test.YtacbkcofcbglhaaVFnExactModelOk1
namespace Go.Proofs.Ytacbkcofcbglhaa.PFnExactModelOk
open Go.RowKit Go.Proofs.YtacbkcofcbglhaaW.PrintWords Go.Proofs.YtacbkcofcbglhaaW.PrintLast Go.Proofs.YtacbkcofcbglhaaW.PrintMore Go.Proofs.Ytacbkcofcbglhaa.XW Go.Proofs.Ytacbkcofcbglhaa.XOp Go.Proofs.Ytacbkcofcbglhaa.XSt Go.Proofs.Ytacbkcofcbglhaa.XDraw
set_option linter.unusedVariables false
set_option linter.unusedSimpArgs false
structure S27 where
  f0 : Int
  f1 : List (List Int)
  f2 : List (List Int)
  f3 : Int
  f4 : Int
def k27 : Kd S27 := Kd.iso (Kd.pair (Kd.int .i64) (Kd.pair (Kd.slice 25 (Kd.slice 3 (Kd.int .i64))) (Kd.pair (Kd.slice 25 (Kd.slice 3 (Kd.int .i64))) (Kd.pair (Kd.int .i64) (Kd.int .i64))))) (fun x : S27 => (x.f0, x.f1, x.f2, x.f3, x.f4))
structure S29 where
  f0 : List (List Int)
  f1 : List (List Int)
def k29 : Kd S29 := Kd.iso (Kd.pair (Kd.slice 25 (Kd.slice 3 (Kd.int .i64))) (Kd.slice 25 (Kd.slice 3 (Kd.int .i64)))) (fun x : S29 => (x.f0, x.f1))
structure S44 where
  f0 : List Int
  f1 : S27
  f2 : S27
  f3 : S27
  f4 : S27
  f5 : List Int
  f6 : S27
  f7 : S27
def k44 : Kd S44 := Kd.iso (Kd.pair (Kd.slice 3 (Kd.int .i64)) (Kd.pair k27 (Kd.pair k27 (Kd.pair k27 (Kd.pair k27 (Kd.pair (Kd.slice 3 (Kd.int .i64)) (Kd.pair k27 k27))))))) (fun x : S44 => (x.f0, x.f1, x.f2, x.f3, x.f4, x.f5, x.f6, x.f7))
structure S31 where
  f0 : Int
  f1 : Int
  f2 : Int
  f3 : List S129
  f4 : List (List Int)
  f5 : List S44
  f6 : List Int
  f7 : S27
  f8 : S29
def k31 : Kd S31 := Kd.iso (Kd.pair (Kd.int .i64) (Kd.pair (Kd.int .i64) (Kd.pair (Kd.int .i64) (Kd.pair (Kd.slice 129 k129) (Kd.pair (Kd.slice 25 (Kd.slice 3 (Kd.int .i64))) (Kd.pair (Kd.slice 44 k44) (Kd.pair (Kd.slice 3 (Kd.int .i64)) (Kd.pair k27 k29)))))))) (fun x : S31 => (x.f0, x.f1, x.f2, x.f3, x.f4, x.f5, x.f6, x.f7, x.f8))
structure S36 where
  f0 : Int
  f1 : List (List Int)
  f2 : List (List Int)
  f3 : Int
  f4 : Int
def k36 : Kd S36 := Kd.iso (Kd.pair (Kd.int .i64) (Kd.pair (Kd.slice 25 (Kd.slice 3 (Kd.int .i64))) (Kd.pair (Kd.slice 25 (Kd.slice 3 (Kd.int .i64))) (Kd.pair (Kd.int .i64) (Kd.int .i64))))) (fun x : S36 => (x.f0, x.f1, x.f2, x.f3, x.f4))
theorem k36_mk (w : World) (x : S36) {A1 : Option Addr} {c1 : Nat} (l1 : x.f1.length ≤ c1) (g1 : (Kd.slice 3 (Kd.int .i64)).C w A1 x.f1.length x.f1) {A2 : Option Addr} {c2 : Nat} (l2 : x.f2.length ≤ c2) (g2 : (Kd.slice 3 (Kd.int .i64)).C w A2 x.f2.length x.f2) : k36.K w x [.int .i64 x.f0, .slice A1 x.f1.length c1, .slice A2 x.f2.length c2, .int .i64 x.f3, .int .i64 x.f4] := ⟨[.int .i64 x.f0], [.slice A1 x.f1.length c1, .slice A2 x.f2.length c2, .int .i64 x.f3, .int .i64 x.f4], rfl, rfl, ⟨[.slice A1 x.f1.length c1], [.slice A2 x.f2.length c2, .int .i64 x.f3, .int .i64 x.f4], rfl, ⟨A1, c1, rfl, l1, g1⟩, ⟨[.slice A2 x.f2.length c2], [.int .i64 x.f3, .int .i64 x.f4], rfl, ⟨A2, c2, rfl, l2, g2⟩, ⟨[.int .i64 x.f3], [.int .i64 x.f4], rfl, rfl, rfl⟩⟩⟩⟩
structure S37 where
  f0 : List (List Int)
  f1 : List (List Int)
def k37 : Kd S37 := Kd.iso (Kd.pair (Kd.slice 25 (Kd.slice 3 (Kd.int .i64))) (Kd.slice 25 (Kd.slice 3 (Kd.int .i64)))) (fun x : S37 => (x.f0, x.f1))
structure S48 where
  f0 : List Int
  f1 : S36
  f2 : S36
  f3 : S36
  f4 : S36
  f5 : List Int
  f6 : S36
  f7 : S36
def k48 : Kd S48 := Kd.iso (Kd.pair (Kd.slice 3 (Kd.int .i64)) (Kd.pair k36 (Kd.pair k36 (Kd.pair k36 (Kd.pair k36 (Kd.pair (Kd.slice 3 (Kd.int .i64)) (Kd.pair k36 k36))))))) (fun x : S48 => (x.f0, x.f1, x.f2, x.f3, x.f4, x.f5, x.f6, x.f7))
theorem k48_mk (w : World) (x : S48) {A0 : Option Addr} {c0 : Nat} (l0 : x.f0.length ≤ c0) (g0 : (Kd.int .i64).C w A0 x.f0.length x.f0) {A2 : Option Addr} {c2 : Nat} (l2 : x.f1.f1.length ≤ c2) (g2 : (Kd.slice 3 (Kd.int .i64)).C w A2 x.f1.f1.length x.f1.f1) {A3 : Option Addr} {c3 : Nat} (l3 : x.f1.f2.length ≤ c3) (g3 : (Kd.slice 3 (Kd.int .i64)).C w A3 x.f1.f2.length x.f1.f2) {A7 : Option Addr} {c7 : Nat} (l7 : x.f2.f1.length ≤ c7) (g7 : (Kd.slice 3 (Kd.int .i64)).C w A7 x.f2.f1.length x.f2.f1) {A8 : Option Addr} {c8 : Nat} (l8 : x.f2.f2.length ≤ c8) (g8 : (Kd.slice 3 (Kd.int .i64)).C w A8 x.f2.f2.length x.f2.f2) {A12 : Option Addr} {c12 : Nat} (l12 : x.f3.f1.length ≤ c12) (g12 : (Kd.slice 3 (Kd.int .i64)).C w A12 x.f3.f1.length x.f3.f1) {A13 : Option Addr} {c13 : Nat} (l13 : x.f3.f2.length ≤ c13) (g13 : (Kd.slice 3 (Kd.int .i64)).C w A13 x.f3.f2.length x.f3.f2) {A17 : Option Addr} {c17 : Nat} (l17 : x.f4.f1.length ≤ c17) (g17 : (Kd.slice 3 (Kd.int .i64)).C w A17 x.f4.f1.length x.f4.f1) {A18 : Option Addr} {c18 : Nat} (l18 : x.f4.f2.length ≤ c18) (g18 : (Kd.slice 3 (Kd.int .i64)).C w A18 x.f4.f2.length x.f4.f2) {A21 : Option Addr} {c21 : Nat} (l21 : x.f5.length ≤ c21) (g21 : (Kd.int .i64).C w A21 x.f5.length x.f5) {A23 : Option Addr} {c23 : Nat} (l23 : x.f6.f1.length ≤ c23) (g23 : (Kd.slice 3 (Kd.int .i64)).C w A23 x.f6.f1.length x.f6.f1) {A24 : Option Addr} {c24 : Nat} (l24 : x.f6.f2.length ≤ c24) (g24 : (Kd.slice 3 (Kd.int .i64)).C w A24 x.f6.f2.length x.f6.f2) {A28 : Option Addr} {c28 : Nat} (l28 : x.f7.f1.length ≤ c28) (g28 : (Kd.slice 3 (Kd.int .i64)).C w A28 x.f7.f1.length x.f7.f1) {A29 : Option Addr} {c29 : Nat} (l29 : x.f7.f2.length ≤ c29) (g29 : (Kd.slice 3 (Kd.int .i64)).C w A29 x.f7.f2.length x.f7.f2) : k48.K w x [.slice A0 x.f0.length c0, .int .i64 x.f1.f0, .slice A2 x.f1.f1.length c2, .slice A3 x.f1.f2.length c3, .int .i64 x.f1.f3, .int .i64 x.f1.f4, .int .i64 x.f2.f0, .slice A7 x.f2.f1.length c7, .slice A8 x.f2.f2.length c8, .int .i64 x.f2.f3, .int .i64 x.f2.f4, .int .i64 x.f3.f0, .slice A12 x.f3.f1.length c12, .slice A13 x.f3.f2.length c13, .int .i64 x.f3.f3, .int .i64 x.f3.f4, .int .i64 x.f4.f0, .slice A17 x.f4.f1.length c17, .slice A18 x.f4.f2.length c18, .int .i64 x.f4.f3, .int .i64 x.f4.f4, .slice A21 x.f5.length c21, .int .i64 x.f6.f0, .slice A23 x.f6.f1.length c23, .slice A24 x.f6.f2.length c24, .int .i64 x.f6.f3, .int .i64 x.f6.f4, .int .i64 x.f7.f0, .slice A28 x.f7.f1.length c28, .slice A29 x.f7.f2.length c29, .int .i64 x.f7.f3, .int .i64 x.f7.f4] := ⟨[.slice A0 x.f0.length c0], [.int .i64 x.f1.f0, .slice A2 x.f1.f1.length c2, .slice A3 x.f1.f2.length c3, .int .i64 x.f1.f3, .int .i64 x.f1.f4, .int .i64 x.f2.f0, .slice A7 x.f2.f1.length c7, .slice A8 x.f2.f2.length c8, .int .i64 x.f2.f3, .int .i64 x.f2.f4, .int .i64 x.f3.f0, .slice A12 x.f3.f1.length c12, .slice A13 x.f3.f2.length c13, .int .i64 x.f3.f3, .int .i64 x.f3.f4, .int .i64 x.f4.f0, .slice A17 x.f4.f1.length c17, .slice A18 x.f4.f2.length c18, .int .i64 x.f4.f3, .int .i64 x.f4.f4, .slice A21 x.f5.length c21, .int .i64 x.f6.f0, .slice A23 x.f6.f1.length c23, .slice A24 x.f6.f2.length c24, .int .i64 x.f6.f3, .int .i64 x.f6.f4, .int .i64 x.f7.f0, .slice A28 x.f7.f1.length c28, .slice A29 x.f7.f2.length c29, .int .i64 x.f7.f3, .int .i64 x.f7.f4], rfl, ⟨A0, c0, rfl, l0, g0⟩, ⟨[.int .i64 x.f1.f0, .slice A2 x.f1.f1.length c2, .slice A3 x.f1.f2.length c3, .int .i64 x.f1.f3, .int .i64 x.f1.f4], [.int .i64 x.f2.f0, .slice A7 x.f2.f1.length c7, .slice A8 x.f2.f2.length c8, .int .i64 x.f2.f3, .int .i64 x.f2.f4, .int .i64 x.f3.f0, .slice A12 x.f3.f1.length c12, .slice A13 x.f3.f2.length c13, .int .i64 x.f3.f3, .int .i64 x.f3.f4, .int .i64 x.f4.f0, .slice A17 x.f4.f1.length c17, .slice A18 x.f4.f2.length c18, .int .i64 x.f4.f3, .int .i64 x.f4.f4, .slice A21 x.f5.length c21, .int .i64 x.f6.f0, .slice A23 x.f6.f1.length c23, .slice A24 x.f6.f2.length c24, .int .i64 x.f6.f3, .int .i64 x.f6.f4, .int .i64 x.f7.f0, .slice A28 x.f7.f1.length c28, .slice A29 x.f7.f2.length c29, .int .i64 x.f7.f3, .int .i64 x.f7.f4], rfl, ⟨[.int .i64 x.f1.f0], [.slice A2 x.f1.f1.length c2, .slice A3 x.f1.f2.length c3, .int .i64 x.f1.f3, .int .i64 x.f1.f4], rfl, rfl, ⟨[.slice A2 x.f1.f1.length c2], [.slice A3 x.f1.f2.length c3, .int .i64 x.f1.f3, .int .i64 x.f1.f4], rfl, ⟨A2, c2, rfl, l2, g2⟩, ⟨[.slice A3 x.f1.f2.length c3], [.int .i64 x.f1.f3, .int .i64 x.f1.f4], rfl, ⟨A3, c3, rfl, l3, g3⟩, ⟨[.int .i64 x.f1.f3], [.int .i64 x.f1.f4], rfl, rfl, rfl⟩⟩⟩⟩, ⟨[.int .i64 x.f2.f0, .slice A7 x.f2.f1.length c7, .slice A8 x.f2.f2.length c8, .int .i64 x.f2.f3, .int .i64 x.f2.f4], [.int .i64 x.f3.f0, .slice A12 x.f3.f1.length c12, .slice A13 x.f3.f2.length c13, .int .i64 x.f3.f3, .int .i64 x.f3.f4, .int .i64 x.f4.f0, .slice A17 x.f4.f1.length c17, .slice A18 x.f4.f2.length c18, .int .i64 x.f4.f3, .int .i64 x.f4.f4, .slice A21 x.f5.length c21, .int .i64 x.f6.f0, .slice A23 x.f6.f1.length c23, .slice A24 x.f6.f2.length c24, .int .i64 x.f6.f3, .int .i64 x.f6.f4, .int .i64 x.f7.f0, .slice A28 x.f7.f1.length c28, .slice A29 x.f7.f2.length c29, .int .i64 x.f7.f3, .int .i64 x.f7.f4], rfl, ⟨[.int .i64 x.f2.f0], [.slice A7 x.f2.f1.length c7, .slice A8 x.f2.f2.length c8, .int .i64 x.f2.f3, .int .i64 x.f2.f4], rfl, rfl, ⟨[.slice A7 x.f2.f1.length c7], [.slice A8 x.f2.f2.length c8, .int .i64 x.f2.f3, .int .i64 x.f2.f4], rfl, ⟨A7, c7, rfl, l7, g7⟩, ⟨[.slice A8 x.f2.f2.length c8], [.int .i64 x.f2.f3, .int .i64 x.f2.f4], rfl, ⟨A8, c8, rfl, l8, g8⟩, ⟨[.int .i64 x.f2.f3], [.int .i64 x.f2.f4], rfl, rfl, rfl⟩⟩⟩⟩, ⟨[.int .i64 x.f3.f0, .slice A12 x.f3.f1.length c12, .slice A13 x.f3.f2.length c13, .int .i64 x.f3.f3, .int .i64 x.f3.f4], [.int .i64 x.f4.f0, .slice A17 x.f4.f1.length c17, .slice A18 x.f4.f2.length c18, .int .i64 x.f4.f3, .int .i64 x.f4.f4, .slice A21 x.f5.length c21, .int .i64 x.f6.f0, .slice A23 x.f6.f1.length c23, .slice A24 x.f6.f2.length c24, .int .i64 x.f6.f3, .int .i64 x.f6.f4, .int .i64 x.f7.f0, .slice A28 x.f7.f1.length c28, .slice A29 x.f7.f2.length c29, .int .i64 x.f7.f3, .int .i64 x.f7.f4], rfl, ⟨[.int .i64 x.f3.f0], [.slice A12 x.f3.f1.length c12, .slice A13 x.f3.f2.length c13, .int .i64 x.f3.f3, .int .i64 x.f3.f4], rfl, rfl, ⟨[.slice A12 x.f3.f1.length c12], [.slice A13 x.f3.f2.length c13, .int .i64 x.f3.f3, .int .i64 x.f3.f4], rfl, ⟨A12, c12, rfl, l12, g12⟩, ⟨[.slice A13 x.f3.f2.length c13], [.int .i64 x.f3.f3, .int .i64 x.f3.f4], rfl, ⟨A13, c13, rfl, l13, g13⟩, ⟨[.int .i64 x.f3.f3], [.int .i64 x.f3.f4], rfl, rfl, rfl⟩⟩⟩⟩, ⟨[.int .i64 x.f4.f0, .slice A17 x.f4.f1.length c17, .slice A18 x.f4.f2.length c18, .int .i64 x.f4.f3, .int .i64 x.f4.f4], [.slice A21 x.f5.length c21, .int .i64 x.f6.f0, .slice A23 x.f6.f1.length c23, .slice A24 x.f6.f2.length c24, .int .i64 x.f6.f3, .int .i64 x.f6.f4, .int .i64 x.f7.f0, .slice A28 x.f7.f1.length c28, .slice A29 x.f7.f2.length c29, .int .i64 x.f7.f3, .int .i64 x.f7.f4], rfl, ⟨[.int .i64 x.f4.f0], [.slice A17 x.f4.f1.length c17, .slice A18 x.f4.f2.length c18, .int .i64 x.f4.f3, .int .i64 x.f4.f4], rfl, rfl, ⟨[.slice A17 x.f4.f1.length c17], [.slice A18 x.f4.f2.length c18, .int .i64 x.f4.f3, .int .i64 x.f4.f4], rfl, ⟨A17, c17, rfl, l17, g17⟩, ⟨[.slice A18 x.f4.f2.length c18], [.int .i64 x.f4.f3, .int .i64 x.f4.f4], rfl, ⟨A18, c18, rfl, l18, g18⟩, ⟨[.int .i64 x.f4.f3], [.int .i64 x.f4.f4], rfl, rfl, rfl⟩⟩⟩⟩, ⟨[.slice A21 x.f5.length c21], [.int .i64 x.f6.f0, .slice A23 x.f6.f1.length c23, .slice A24 x.f6.f2.length c24, .int .i64 x.f6.f3, .int .i64 x.f6.f4, .int .i64 x.f7.f0, .slice A28 x.f7.f1.length c28, .slice A29 x.f7.f2.length c29, .int .i64 x.f7.f3, .int .i64 x.f7.f4], rfl, ⟨A21, c21, rfl, l21, g21⟩, ⟨[.int .i64 x.f6.f0, .slice A23 x.f6.f1.length c23, .slice A24 x.f6.f2.length c24, .int .i64 x.f6.f3, .int .i64 x.f6.f4], [.int .i64 x.f7.f0, .slice A28 x.f7.f1.length c28, .slice A29 x.f7.f2.length c29, .int .i64 x.f7.f3, .int .i64 x.f7.f4], rfl, ⟨[.int .i64 x.f6.f0], [.slice A23 x.f6.f1.length c23, .slice A24 x.f6.f2.length c24, .int .i64 x.f6.f3, .int .i64 x.f6.f4], rfl, rfl, ⟨[.slice A23 x.f6.f1.length c23], [.slice A24 x.f6.f2.length c24, .int .i64 x.f6.f3, .int .i64 x.f6.f4], rfl, ⟨A23, c23, rfl, l23, g23⟩, ⟨[.slice A24 x.f6.f2.length c24], [.int .i64 x.f6.f3, .int .i64 x.f6.f4], rfl, ⟨A24, c24, rfl, l24, g24⟩, ⟨[.int .i64 x.f6.f3], [.int .i64 x.f6.f4], rfl, rfl, rfl⟩⟩⟩⟩, ⟨[.int .i64 x.f7.f0], [.slice A28 x.f7.f1.length c28, .slice A29 x.f7.f2.length c29, .int .i64 x.f7.f3, .int .i64 x.f7.f4], rfl, rfl, ⟨[.slice A28 x.f7.f1.length c28], [.slice A29 x.f7.f2.length c29, .int .i64 x.f7.f3, .int .i64 x.f7.f4], rfl, ⟨A28, c28, rfl, l28, g28⟩, ⟨[.slice A29 x.f7.f2.length c29], [.int .i64 x.f7.f3, .int .i64 x.f7.f4], rfl, ⟨A29, c29, rfl, l29, g29⟩, ⟨[.int .i64 x.f7.f3], [.int .i64 x.f7.f4], rfl, rfl, rfl⟩⟩⟩⟩⟩⟩⟩⟩⟩⟩⟩
structure S39 where
  f0 : Int
  f1 : Int
  f2 : Int
  f3 : List S112
  f4 : List (List Int)
  f5 : List S48
  f6 : List Int
  f7 : S36
  f8 : S37
def k39 : Kd S39 := Kd.iso (Kd.pair (Kd.int .i64) (Kd.pair (Kd.int .i64) (Kd.pair (Kd.int .i64) (Kd.pair (Kd.slice 112 k112) (Kd.pair (Kd.slice 25 (Kd.slice 3 (Kd.int .i64))) (Kd.pair (Kd.slice 48 k48) (Kd.pair (Kd.slice 3 (Kd.int .i64)) (Kd.pair k36 k37)))))))) (fun x : S39 => (x.f0, x.f1, x.f2, x.f3, x.f4, x.f5, x.f6, x.f7, x.f8))
theorem k39_mk (w : World) (x : S39) {A3 : Option Addr} {c3 : Nat} (l3 : x.f3.length ≤ c3) (g3 : k112.C w A3 x.f3.length x.f3) {A4 : Option Addr} {c4 : Nat} (l4 : x.f4.length ≤ c4) (g4 : (Kd.slice 3 (Kd.int .i64)).C w A4 x.f4.length x.f4) {A5 : Option Addr} {c5 : Nat} (l5 : x.f5.length ≤ c5) (g5 : k48.C w A5 x.f5.length x.f5) {A6 : Option Addr} {c6 : Nat} (l6 : x.f6.length ≤ c6) (g6 : (Kd.int .i64).C w A6 x.f6.length x.f6) {A8 : Option Addr} {c8 : Nat} (l8 : x.f7.f1.length ≤ c8) (g8 : (Kd.slice 3 (Kd.int .i64)).C w A8 x.f7.f1.length x.f7.f1) {A9 : Option Addr} {c9 : Nat} (l9 : x.f7.f2.length ≤ c9) (g9 : (Kd.slice 3 (Kd.int .i64)).C w A9 x.f7.f2.length x.f7.f2) {A12 : Option Addr} {c12 : Nat} (l12 : x.f8.f0.length ≤ c12) (g12 : (Kd.slice 3 (Kd.int .i64)).C w A12 x.f8.f0.length x.f8.f0) {A13 : Option Addr} {c13 : Nat} (l13 : x.f8.f1.length ≤ c13) (g13 : (Kd.slice 3 (Kd.int .i64)).C w A13 x.f8.f1.length x.f8.f1) : k39.K w x [.int .i64 x.f0, .int .i64 x.f1, .int .i64 x.f2, .slice A3 x.f3.length c3, .slice A4 x.f4.length c4, .slice A5 x.f5.length c5, .slice A6 x.f6.length c6, .int .i64 x.f7.f0, .slice A8 x.f7.f1.length c8, .slice A9 x.f7.f2.length c9, .int .i64 x.f7.f3, .int .i64 x.f7.f4, .slice A12 x.f8.f0.length c12, .slice A13 x.f8.f1.length c13] := ⟨[.int .i64 x.f0], [.int .i64 x.f1, .int .i64 x.f2, .slice A3 x.f3.length c3, .slice A4 x.f4.length c4, .slice A5 x.f5.length c5, .slice A6 x.f6.length c6, .int .i64 x.f7.f0, .slice A8 x.f7.f1.length c8, .slice A9 x.f7.f2.length c9, .int .i64 x.f7.f3, .int .i64 x.f7.f4, .slice A12 x.f8.f0.length c12, .slice A13 x.f8.f1.length c13], rfl, rfl, ⟨[.int .i64 x.f1], [.int .i64 x.f2, .slice A3 x.f3.length c3, .slice A4 x.f4.length c4, .slice A5 x.f5.length c5, .slice A6 x.f6.length c6, .int .i64 x.f7.f0, .slice A8 x.f7.f1.length c8, .slice A9 x.f7.f2.length c9, .int .i64 x.f7.f3, .int .i64 x.f7.f4, .slice A12 x.f8.f0.length c12, .slice A13 x.f8.f1.length c13], rfl, rfl, ⟨[.int .i64 x.f2], [.slice A3 x.f3.length c3, .slice A4 x.f4.length c4, .slice A5 x.f5.length c5, .slice A6 x.f6.length c6, .int .i64 x.f7.f0, .slice A8 x.f7.f1.length c8, .slice A9 x.f7.f2.length c9, .int .i64 x.f7.f3, .int .i64 x.f7.f4, .slice A12 x.f8.f0.length c12, .slice A13 x.f8.f1.length c13], rfl, rfl, ⟨[.slice A3 x.f3.length c3], [.slice A4 x.f4.length c4, .slice A5 x.f5.length c5, .slice A6 x.f6.length c6, .int .i64 x.f7.f0, .slice A8 x.f7.f1.length c8, .slice A9 x.f7.f2.length c9, .int .i64 x.f7.f3, .int .i64 x.f7.f4, .slice A12 x.f8.f0.length c12, .slice A13 x.f8.f1.length c13], rfl, ⟨A3, c3, rfl, l3, g3⟩, ⟨[.slice A4 x.f4.length c4], [.slice A5 x.f5.length c5, .slice A6 x.f6.length c6, .int .i64 x.f7.f0, .slice A8 x.f7.f1.length c8, .slice A9 x.f7.f2.length c9, .int .i64 x.f7.f3, .int .i64 x.f7.f4, .slice A12 x.f8.f0.length c12, .slice A13 x.f8.f1.length c13], rfl, ⟨A4, c4, rfl, l4, g4⟩, ⟨[.slice A5 x.f5.length c5], [.slice A6 x.f6.length c6, .int .i64 x.f7.f0, .slice A8 x.f7.f1.length c8, .slice A9 x.f7.f2.length c9, .int .i64 x.f7.f3, .int .i64 x.f7.f4, .slice A12 x.f8.f0.length c12, .slice A13 x.f8.f1.length c13], rfl, ⟨A5, c5, rfl, l5, g5⟩, ⟨[.slice A6 x.f6.length c6], [.int .i64 x.f7.f0, .slice A8 x.f7.f1.length c8, .slice A9 x.f7.f2.length c9, .int .i64 x.f7.f3, .int .i64 x.f7.f4, .slice A12 x.f8.f0.length c12, .slice A13 x.f8.f1.length c13], rfl, ⟨A6, c6, rfl, l6, g6⟩, ⟨[.int .i64 x.f7.f0, .slice A8 x.f7.f1.length c8, .slice A9 x.f7.f2.length c9, .int .i64 x.f7.f3, .int .i64 x.f7.f4], [.slice A12 x.f8.f0.length c12, .slice A13 x.f8.f1.length c13], rfl, ⟨[.int .i64 x.f7.f0], [.slice A8 x.f7.f1.length c8, .slice A9 x.f7.f2.length c9, .int .i64 x.f7.f3, .int .i64 x.f7.f4], rfl, rfl, ⟨[.slice A8 x.f7.f1.length c8], [.slice A9 x.f7.f2.length c9, .int .i64 x.f7.f3, .int .i64 x.f7.f4], rfl, ⟨A8, c8, rfl, l8, g8⟩, ⟨[.slice A9 x.f7.f2.length c9], [.int .i64 x.f7.f3, .int .i64 x.f7.f4], rfl, ⟨A9, c9, rfl, l9, g9⟩, ⟨[.int .i64 x.f7.f3], [.int .i64 x.f7.f4], rfl, rfl, rfl⟩⟩⟩⟩, ⟨[.slice A12 x.f8.f0.length c12], [.slice A13 x.f8.f1.length c13], rfl, ⟨A12, c12, rfl, l12, g12⟩, ⟨A13, c13, rfl, l13, g13⟩⟩⟩⟩⟩⟩⟩⟩⟩⟩
def o27 : S27 := ⟨0, [], [], 0, 0⟩
theorem h27 : Kd.Heap k27 := Kd.heap_iso _ (Kd.heap_pair (Kd.heap_int _) (Kd.heap_pair (Kd.heap_slice _ (Kd.heap_slice _ (Kd.heap_int _))) (Kd.heap_pair (Kd.heap_slice _ (Kd.heap_slice _ (Kd.heap_int _))) (Kd.heap_pair (Kd.heap_int _) (Kd.heap_int _)))))
theorem h29 : Kd.Heap k29 := Kd.heap_iso _ (Kd.heap_pair (Kd.heap_slice _ (Kd.heap_slice _ (Kd.heap_int _))) (Kd.heap_slice _ (Kd.heap_slice _ (Kd.heap_int _))))
def o129 : S129 := ⟨0, 0⟩
theorem h129 : Kd.Heap k129 := Kd.heap_iso _ (Kd.heap_pair (Kd.heap_int _) (Kd.heap_int _))
def o44 : S44 := ⟨[], o27, o27, o27, o27, [], o27, o27⟩
theorem h44 : Kd.Heap k44 := Kd.heap_iso _ (Kd.heap_pair (Kd.heap_slice _ (Kd.heap_int _)) (Kd.heap_pair h27 (Kd.heap_pair h27 (Kd.heap_pair h27 (Kd.heap_pair h27 (Kd.heap_pair (Kd.heap_slice _ (Kd.heap_int _)) (Kd.heap_pair h27 h27)))))))
theorem h31 : Kd.Heap k31 := Kd.heap_iso _ (Kd.heap_pair (Kd.heap_int _) (Kd.heap_pair (Kd.heap_int _) (Kd.heap_pair (Kd.heap_int _) (Kd.heap_pair (Kd.heap_slice _ h129) (Kd.heap_pair (Kd.heap_slice _ (Kd.heap_slice _ (Kd.heap_int _))) (Kd.heap_pair (Kd.heap_slice _ h44) (Kd.heap_pair (Kd.heap_slice _ (Kd.heap_int _)) (Kd.heap_pair h27 h29))))))))
def o36 : S36 := ⟨0, [], [], 0, 0⟩
theorem h36 : Kd.Heap k36 := Kd.heap_iso _ (Kd.heap_pair (Kd.heap_int _) (Kd.heap_pair (Kd.heap_slice _ (Kd.heap_slice _ (Kd.heap_int _))) (Kd.heap_pair (Kd.heap_slice _ (Kd.heap_slice _ (Kd.heap_int _))) (Kd.heap_pair (Kd.heap_int _) (Kd.heap_int _)))))
theorem h37 : Kd.Heap k37 := Kd.heap_iso _ (Kd.heap_pair (Kd.heap_slice _ (Kd.heap_slice _ (Kd.heap_int _))) (Kd.heap_slice _ (Kd.heap_slice _ (Kd.heap_int _))))
def o112 : S112 := ⟨0, 0⟩
theorem h112 : Kd.Heap k112 := Kd.heap_iso _ (Kd.heap_pair (Kd.heap_int _) (Kd.heap_int _))
def o48 : S48 := ⟨[], o36, o36, o36, o36, [], o36, o36⟩
theorem h48 : Kd.Heap k48 := Kd.heap_iso _ (Kd.heap_pair (Kd.heap_slice _ (Kd.heap_int _)) (Kd.heap_pair h36 (Kd.heap_pair h36 (Kd.heap_pair h36 (Kd.heap_pair h36 (Kd.heap_pair (Kd.heap_slice _ (Kd.heap_int _)) (Kd.heap_pair h36 h36)))))))
theorem h39 : Kd.Heap k39 := Kd.heap_iso _ (Kd.heap_pair (Kd.heap_int _) (Kd.heap_pair (Kd.heap_int _) (Kd.heap_pair (Kd.heap_int _) (Kd.heap_pair (Kd.heap_slice _ h112) (Kd.heap_pair (Kd.heap_slice _ (Kd.heap_slice _ (Kd.heap_int _))) (Kd.heap_pair (Kd.heap_slice _ h48) (Kd.heap_pair (Kd.heap_slice _ (Kd.heap_int _)) (Kd.heap_pair h36 h37))))))))
theorem at31_0 {w : World} {x : S31} {cs : List Value} (h : AtK k31 w x cs 0) : AtK (Kd.int .i64) w x.f0 cs 0 := h.iso.fst
theorem at31_1 {w : World} {x : S31} {cs : List Value} (h : AtK k31 w x cs 0) : AtK (Kd.int .i64) w x.f1 cs 1 := (h.iso.snd rfl).fst
theorem at31_2 {w : World} {x : S31} {cs : List Value} (h : AtK k31 w x cs 0) : AtK (Kd.int .i64) w x.f2 cs 2 := ((h.iso.snd rfl).snd rfl).fst
theorem at31_3 {w : World} {x : S31} {cs : List Value} (h : AtK k31 w x cs 0) : AtK (Kd.slice 129 k129) w x.f3 cs 3 := (((h.iso.snd rfl).snd rfl).snd rfl).fst
theorem at31_4 {w : World} {x : S31} {cs : List Value} (h : AtK k31 w x cs 0) : AtK (Kd.slice 25 (Kd.slice 3 (Kd.int .i64))) w x.f4 cs 4 := ((((h.iso.snd rfl).snd rfl).snd rfl).snd rfl).fst
theorem at31_5 {w : World} {x : S31} {cs : List Value} (h : AtK k31 w x cs 0) : AtK (Kd.slice 44 k44) w x.f5 cs 5 := (((((h.iso.snd rfl).snd rfl).snd rfl).snd rfl).snd rfl).fst
theorem at31_6 {w : World} {x : S31} {cs : List Value} (h : AtK k31 w x cs 0) : AtK (Kd.slice 3 (Kd.int .i64)) w x.f6 cs 6 := ((((((h.iso.snd rfl).snd rfl).snd rfl).snd rfl).snd rfl).snd rfl).fst
theorem at31_7 {w : World} {x : S31} {cs : List Value} (h : AtK k31 w x cs 0) : AtK (Kd.int .i64) w x.f7.f0 cs 7 := (((((((h.iso.snd rfl).snd rfl).snd rfl).snd rfl).snd rfl).snd rfl).snd rfl).fst.iso.fst
theorem at31_8 {w : World} {x : S31} {cs : List Value} (h : AtK k31 w x cs 0) : AtK (Kd.slice 25 (Kd.slice 3 (Kd.int .i64))) w x.f7.f1 cs 8 := ((((((((h.iso.snd rfl).snd rfl).snd rfl).snd rfl).snd rfl).snd rfl).snd rfl).fst.iso.snd rfl).fst
theorem at31_9 {w : World} {x : S31} {cs : List Value} (h : AtK k31 w x cs 0) : AtK (Kd.slice 25 (Kd.slice 3 (Kd.int .i64))) w x.f7.f2 cs 9 := (((((((((h.iso.snd rfl).snd rfl).snd rfl).snd rfl).snd rfl).snd rfl).snd rfl).fst.iso.snd rfl).snd rfl).fst
theorem at31_10 {w : World} {x : S31} {cs : List Value} (h : AtK k31 w x cs 0) : AtK (Kd.int .i64) w x.f7.f3 cs 10 := ((((((((((h.iso.snd rfl).snd rfl).snd rfl).snd rfl).snd rfl).snd rfl).snd rfl).fst.iso.snd rfl).snd rfl).snd rfl).fst
theorem at31_11 {w : World} {x : S31} {cs : List Value} (h : AtK k31 w x cs 0) : AtK (Kd.int .i64) w x.f7.f4 cs 11 := (((((((((((h.iso.snd rfl).snd rfl).snd rfl).snd rfl).snd rfl).snd rfl).snd rfl).fst.iso.snd rfl).snd rfl).snd rfl).snd rfl)
theorem at31_12 {w : World} {x : S31} {cs : List Value} (h : AtK k31 w x cs 0) : AtK (Kd.slice 25 (Kd.slice 3 (Kd.int .i64))) w x.f8.f0 cs 12 := ((((((((h.iso.snd rfl).snd rfl).snd rfl).snd rfl).snd rfl).snd rfl).snd rfl).snd rfl).iso.fst
theorem at31_13 {w : World} {x : S31} {cs : List Value} (h : AtK k31 w x cs 0) : AtK (Kd.slice 25 (Kd.slice 3 (Kd.int .i64))) w x.f8.f1 cs 13 := (((((((((h.iso.snd rfl).snd rfl).snd rfl).snd rfl).snd rfl).snd rfl).snd rfl).snd rfl).iso.snd rfl)
theorem at36_0 {w : World} {x : S36} {cs : List Value} (h : AtK k36 w x cs 0) : AtK (Kd.int .i64) w x.f0 cs 0 := h.iso.fst
theorem at36_1 {w : World} {x : S36} {cs : List Value} (h : AtK k36 w x cs 0) : AtK (Kd.slice 25 (Kd.slice 3 (Kd.int .i64))) w x.f1 cs 1 := (h.iso.snd rfl).fst
theorem at36_2 {w : World} {x : S36} {cs : List Value} (h : AtK k36 w x cs 0) : AtK (Kd.slice 25 (Kd.slice 3 (Kd.int .i64))) w x.f2 cs 2 := ((h.iso.snd rfl).snd rfl).fst
theorem at36_3 {w : World} {x : S36} {cs : List Value} (h : AtK k36 w x cs 0) : AtK (Kd.int .i64) w x.f3 cs 3 := (((h.iso.snd rfl).snd rfl).snd rfl).fst
theorem at36_4 {w : World} {x : S36} {cs : List Value} (h : AtK k36 w x cs 0) : AtK (Kd.int .i64) w x.f4 cs 4 := ((((h.iso.snd rfl).snd rfl).snd rfl).snd rfl)
theorem at39_0 {w : World} {x : S39} {cs : List Value} (h : AtK k39 w x cs 0) : AtK (Kd.int .i64) w x.f0 cs 0 := h.iso.fst
theorem at39_1 {w : World} {x : S39} {cs : List Value} (h : AtK k39 w x cs 0) : AtK (Kd.int .i64) w x.f1 cs 1 := (h.iso.snd rfl).fst
theorem at39_2 {w : World} {x : S39} {cs : List Value} (h : AtK k39 w x cs 0) : AtK (Kd.int .i64) w x.f2 cs 2 := ((h.iso.snd rfl).snd rfl).fst
theorem at39_3 {w : World} {x : S39} {cs : List Value} (h : AtK k39 w x cs 0) : AtK (Kd.slice 112 k112) w x.f3 cs 3 := (((h.iso.snd rfl).snd rfl).snd rfl).fst
theorem at39_4 {w : World} {x : S39} {cs : List Value} (h : AtK k39 w x cs 0) : AtK (Kd.slice 25 (Kd.slice 3 (Kd.int .i64))) w x.f4 cs 4 := ((((h.iso.snd rfl).snd rfl).snd rfl).snd rfl).fst
theorem at39_5 {w : World} {x : S39} {cs : List Value} (h : AtK k39 w x cs 0) : AtK (Kd.slice 48 k48) w x.f5 cs 5 := (((((h.iso.snd rfl).snd rfl).snd rfl).snd rfl).snd rfl).fst
theorem at39_6 {w : World} {x : S39} {cs : List Value} (h : AtK k39 w x cs 0) : AtK (Kd.slice 3 (Kd.int .i64)) w x.f6 cs 6 := ((((((h.iso.snd rfl).snd rfl).snd rfl).snd rfl).snd rfl).snd rfl).fst
theorem at39_7 {w : World} {x : S39} {cs : List Value} (h : AtK k39 w x cs 0) : AtK (Kd.int .i64) w x.f7.f0 cs 7 := (((((((h.iso.snd rfl).snd rfl).snd rfl).snd rfl).snd rfl).snd rfl).snd rfl).fst.iso.fst
theorem at39_8 {w : World} {x : S39} {cs : List Value} (h : AtK k39 w x cs 0) : AtK (Kd.slice 25 (Kd.slice 3 (Kd.int .i64))) w x.f7.f1 cs 8 := ((((((((h.iso.snd rfl).snd rfl).snd rfl).snd rfl).snd rfl).snd rfl).snd rfl).fst.iso.snd rfl).fst
theorem at39_9 {w : World} {x : S39} {cs : List Value} (h : AtK k39 w x cs 0) : AtK (Kd.slice 25 (Kd.slice 3 (Kd.int .i64))) w x.f7.f2 cs 9 := (((((((((h.iso.snd rfl).snd rfl).snd rfl).snd rfl).snd rfl).snd rfl).snd rfl).fst.iso.snd rfl).snd rfl).fst
theorem at39_10 {w : World} {x : S39} {cs : List Value} (h : AtK k39 w x cs 0) : AtK (Kd.int .i64) w x.f7.f3 cs 10 := ((((((((((h.iso.snd rfl).snd rfl).snd rfl).snd rfl).snd rfl).snd rfl).snd rfl).fst.iso.snd rfl).snd rfl).snd rfl).fst
theorem at39_11 {w : World} {x : S39} {cs : List Value} (h : AtK k39 w x cs 0) : AtK (Kd.int .i64) w x.f7.f4 cs 11 := (((((((((((h.iso.snd rfl).snd rfl).snd rfl).snd rfl).snd rfl).snd rfl).snd rfl).fst.iso.snd rfl).snd rfl).snd rfl).snd rfl)
theorem at39_12 {w : World} {x : S39} {cs : List Value} (h : AtK k39 w x cs 0) : AtK (Kd.slice 25 (Kd.slice 3 (Kd.int .i64))) w x.f8.f0 cs 12 := ((((((((h.iso.snd rfl).snd rfl).snd rfl).snd rfl).snd rfl).snd rfl).snd rfl).snd rfl).iso.fst
theorem at39_13 {w : World} {x : S39} {cs : List Value} (h : AtK k39 w x cs 0) : AtK (Kd.slice 25 (Kd.slice 3 (Kd.int .i64))) w x.f8.f1 cs 13 := (((((((((h.iso.snd rfl).snd rfl).snd rfl).snd rfl).snd rfl).snd rfl).snd rfl).snd rfl).iso.snd rfl)
theorem at44_0 {w : World} {x : S44} {cs : List Value} (h : AtK k44 w x cs 0) : AtK (Kd.slice 3 (Kd.int .i64)) w x.f0 cs 0 := h.iso.fst
theorem at44_1 {w : World} {x : S44} {cs : List Value} (h : AtK k44 w x cs 0) : AtK (Kd.int .i64) w x.f1.f0 cs 1 := (h.iso.snd rfl).fst.iso.fst
theorem at44_2 {w : World} {x : S44} {cs : List Value} (h : AtK k44 w x cs 0) : AtK (Kd.slice 25 (Kd.slice 3 (Kd.int .i64))) w x.f1.f1 cs 2 := ((h.iso.snd rfl).fst.iso.snd rfl).fst
theorem at44_3 {w : World} {x : S44} {cs : List Value} (h : AtK k44 w x cs 0) : AtK (Kd.slice 25 (Kd.slice 3 (Kd.int .i64))) w x.f1.f2 cs 3 := (((h.iso.snd rfl).fst.iso.snd rfl).snd rfl).fst
theorem at44_4 {w : World} {x : S44} {cs : List Value} (h : AtK k44 w x cs 0) : AtK (Kd.int .i64) w x.f1.f3 cs 4 := ((((h.iso.snd rfl).fst.iso.snd rfl).snd rfl).snd rfl).fst
theorem at44_5 {w : World} {x : S44} {cs : List Value} (h : AtK k44 w x cs 0) : AtK (Kd.int .i64) w x.f1.f4 cs 5 := (((((h.iso.snd rfl).fst.iso.snd rfl).snd rfl).snd rfl).snd rfl)
theorem at44_6 {w : World} {x : S44} {cs : List Value} (h : AtK k44 w x cs 0) : AtK (Kd.int .i64) w x.f2.f0 cs 6 := ((h.iso.snd rfl).snd rfl).fst.iso.fst
theorem at44_7 {w : World} {x : S44} {cs : List Value} (h : AtK k44 w x cs 0) : AtK (Kd.slice 25 (Kd.slice 3 (Kd.int .i64))) w x.f2.f1 cs 7 := (((h.iso.snd rfl).snd rfl).fst.iso.snd rfl).fst
theorem at44_8 {w : World} {x : S44} {cs : List Value} (h : AtK k44 w x cs 0) : AtK (Kd.slice 25 (Kd.slice 3 (Kd.int .i64))) w x.f2.f2 cs 8 := ((((h.iso.snd rfl).snd rfl).fst.iso.snd rfl).snd rfl).fst
theorem at44_9 {w : World} {x : S44} {cs : List Value} (h : AtK k44 w x cs 0) : AtK (Kd.int .i64) w x.f2.f3 cs 9 := (((((h.iso.snd rfl).snd rfl).fst.iso.snd rfl).snd rfl).snd rfl).fst
theorem at44_10 {w : World} {x : S44} {cs : List Value} (h : AtK k44 w x cs 0) : AtK (Kd.int .i64) w x.f2.f4 cs 10 := ((((((h.iso.snd rfl).snd rfl).fst.iso.snd rfl).snd rfl).snd rfl).snd rfl)
theorem at44_11 {w : World} {x : S44} {cs : List Value} (h : AtK k44 w x cs 0) : AtK (Kd.int .i64) w x.f3.f0 cs 11 := (((h.iso.snd rfl).snd rfl).snd rfl).fst.iso.fst
theorem at44_12 {w : World} {x : S44} {cs : List Value} (h : AtK k44 w x cs 0) : AtK (Kd.slice 25 (Kd.slice 3 (Kd.int .i64))) w x.f3.f1 cs 12 := ((((h.iso.snd rfl).snd rfl).snd rfl).fst.iso.snd rfl).fst
theorem at44_13 {w : World} {x : S44} {cs : List Value} (h : AtK k44 w x cs 0) : AtK (Kd.slice 25 (Kd.slice 3 (Kd.int .i64))) w x.f3.f2 cs 13 := (((((h.iso.snd rfl).snd rfl).snd rfl).fst.iso.snd rfl).snd rfl).fst
theorem at44_14 {w : World} {x : S44} {cs : List Value} (h : AtK k44 w x cs 0) : AtK (Kd.int .i64) w x.f3.f3 cs 14 := ((((((h.iso.snd rfl).snd rfl).snd rfl).fst.iso.snd rfl).snd rfl).snd rfl).fst
theorem at44_15 {w : World} {x : S44} {cs : List Value} (h : AtK k44 w x cs 0) : AtK (Kd.int .i64) w x.f3.f4 cs 15 := (((((((h.iso.snd rfl).snd rfl).snd rfl).fst.iso.snd rfl).snd rfl).snd rfl).snd rfl)
theorem at44_16 {w : World} {x : S44} {cs : List Value} (h : AtK k44 w x cs 0) : AtK (Kd.int .i64) w x.f4.f0 cs 16 := ((((h.iso.snd rfl).snd rfl).snd rfl).snd rfl).fst.iso.fst
theorem at44_17 {w : World} {x : S44} {cs : List Value} (h : AtK k44 w x cs 0) : AtK (Kd.slice 25 (Kd.slice 3 (Kd.int .i64))) w x.f4.f1 cs 17 := (((((h.iso.snd rfl).snd rfl).snd rfl).snd rfl).fst.iso.snd rfl).fst
theorem at44_18 {w : World} {x : S44} {cs : List Value} (h : AtK k44 w x cs 0) : AtK (Kd.slice 25 (Kd.slice 3 (Kd.int .i64))) w x.f4.f2 cs 18 := ((((((h.iso.snd rfl).snd rfl).snd rfl).snd rfl).fst.iso.snd rfl).snd rfl).fst
theorem at44_19 {w : World} {x : S44} {cs : List Value} (h : AtK k44 w x cs 0) : AtK (Kd.int .i64) w x.f4.f3 cs 19 := (((((((h.iso.snd rfl).snd rfl).snd rfl).snd rfl).fst.iso.snd rfl).snd rfl).snd rfl).fst
theorem at44_20 {w : World} {x : S44} {cs : List Value} (h : AtK k44 w x cs 0) : AtK (Kd.int .i64) w x.f4.f4 cs 20 := ((((((((h.iso.snd rfl).snd rfl).snd rfl).snd rfl).fst.iso.snd rfl).snd rfl).snd rfl).snd rfl)
theorem at44_21 {w : World} {x : S44} {cs : List Value} (h : AtK k44 w x cs 0) : AtK (Kd.slice 3 (Kd.int .i64)) w x.f5 cs 21 := (((((h.iso.snd rfl).snd rfl).snd rfl).snd rfl).snd rfl).fst
theorem at44_22 {w : World} {x : S44} {cs : List Value} (h : AtK k44 w x cs 0) : AtK (Kd.int .i64) w x.f6.f0 cs 22 := ((((((h.iso.snd rfl).snd rfl).snd rfl).snd rfl).snd rfl).snd rfl).fst.iso.fst
theorem at44_23 {w : World} {x : S44} {cs : List Value} (h : AtK k44 w x cs 0) : AtK (Kd.slice 25 (Kd.slice 3 (Kd.int .i64))) w x.f6.f1 cs 23 := (((((((h.iso.snd rfl).snd rfl).snd rfl).snd rfl).snd rfl).snd rfl).fst.iso.snd rfl).fst
theorem at44_24 {w : World} {x : S44} {cs : List Value} (h : AtK k44 w x cs 0) : AtK (Kd.slice 25 (Kd.slice 3 (Kd.int .i64))) w x.f6.f2 cs 24 := ((((((((h.iso.snd rfl).snd rfl).snd rfl).snd rfl).snd rfl).snd rfl).fst.iso.snd rfl).snd rfl).fst
theorem at44_25 {w : World} {x : S44} {cs : List Value} (h : AtK k44 w x cs 0) : AtK (Kd.int .i64) w x.f6.f3 cs 25 := (((((((((h.iso.snd rfl).snd rfl).snd rfl).snd rfl).snd rfl).snd rfl).fst.iso.snd rfl).snd rfl).snd rfl).fst
theorem at44_26 {w : World} {x : S44} {cs : List Value} (h : AtK k44 w x cs 0) : AtK (Kd.int .i64) w x.f6.f4 cs 26 := ((((((((((h.iso.snd rfl).snd rfl).snd rfl).snd rfl).snd rfl).snd rfl).fst.iso.snd rfl).snd rfl).snd rfl).snd rfl)
theorem at44_27 {w : World} {x : S44} {cs : List Value} (h : AtK k44 w x cs 0) : AtK (Kd.int .i64) w x.f7.f0 cs 27 := (((((((h.iso.snd rfl).snd rfl).snd rfl).snd rfl).snd rfl).snd rfl).snd rfl).iso.fst
theorem at44_28 {w : World} {x : S44} {cs : List Value} (h : AtK k44 w x cs 0) : AtK (Kd.slice 25 (Kd.slice 3 (Kd.int .i64))) w x.f7.f1 cs 28 := ((((((((h.iso.snd rfl).snd rfl).snd rfl).snd rfl).snd rfl).snd rfl).snd rfl).iso.snd rfl).fst
theorem at44_29 {w : World} {x : S44} {cs : List Value} (h : AtK k44 w x cs 0) : AtK (Kd.slice 25 (Kd.slice 3 (Kd.int .i64))) w x.f7.f2 cs 29 := (((((((((h.iso.snd rfl).snd rfl).snd rfl).snd rfl).snd rfl).snd rfl).snd rfl).iso.snd rfl).snd rfl).fst
theorem at44_30 {w : World} {x : S44} {cs : List Value} (h : AtK k44 w x cs 0) : AtK (Kd.int .i64) w x.f7.f3 cs 30 := ((((((((((h.iso.snd rfl).snd rfl).snd rfl).snd rfl).snd rfl).snd rfl).snd rfl).iso.snd rfl).snd rfl).snd rfl).fst
theorem at44_31 {w : World} {x : S44} {cs : List Value} (h : AtK k44 w x cs 0) : AtK (Kd.int .i64) w x.f7.f4 cs 31 := (((((((((((h.iso.snd rfl).snd rfl).snd rfl).snd rfl).snd rfl).snd rfl).snd rfl).iso.snd rfl).snd rfl).snd rfl).snd rfl)
theorem at48_0 {w : World} {x : S48} {cs : List Value} (h : AtK k48 w x cs 0) : AtK (Kd.slice 3 (Kd.int .i64)) w x.f0 cs 0 := h.iso.fst
theorem at48_1 {w : World} {x : S48} {cs : List Value} (h : AtK k48 w x cs 0) : AtK (Kd.int .i64) w x.f1.f0 cs 1 := (h.iso.snd rfl).fst.iso.fst
theorem at48_2 {w : World} {x : S48} {cs : List Value} (h : AtK k48 w x cs 0) : AtK (Kd.slice 25 (Kd.slice 3 (Kd.int .i64))) w x.f1.f1 cs 2 := ((h.iso.snd rfl).fst.iso.snd rfl).fst
theorem at48_3 {w : World} {x : S48} {cs : List Value} (h : AtK k48 w x cs 0) : AtK (Kd.slice 25 (Kd.slice 3 (Kd.int .i64))) w x.f1.f2 cs 3 := (((h.iso.snd rfl).fst.iso.snd rfl).snd rfl).fst
theorem at48_4 {w : World} {x : S48} {cs : List Value} (h : AtK k48 w x cs 0) : AtK (Kd.int .i64) w x.f1.f3 cs 4 := ((((h.iso.snd rfl).fst.iso.snd rfl).snd rfl).snd rfl).fst
theorem at48_5 {w : World} {x : S48} {cs : List Value} (h : AtK k48 w x cs 0) : AtK (Kd.int .i64) w x.f1.f4 cs 5 := (((((h.iso.snd rfl).fst.iso.snd rfl).snd rfl).snd rfl).snd rfl)
theorem at48_6 {w : World} {x : S48} {cs : List Value} (h : AtK k48 w x cs 0) : AtK (Kd.int .i64) w x.f2.f0 cs 6 := ((h.iso.snd rfl).snd rfl).fst.iso.fst
theorem at48_7 {w : World} {x : S48} {cs : List Value} (h : AtK k48 w x cs 0) : AtK (Kd.slice 25 (Kd.slice 3 (Kd.int .i64))) w x.f2.f1 cs 7 := (((h.iso.snd rfl).snd rfl).fst.iso.snd rfl).fst
theorem at48_8 {w : World} {x : S48} {cs : List Value} (h : AtK k48 w x cs 0) : AtK (Kd.slice 25 (Kd.slice 3 (Kd.int .i64))) w x.f2.f2 cs 8 := ((((h.iso.snd rfl).snd rfl).fst.iso.snd rfl).snd rfl).fst
theorem at48_9 {w : World} {x : S48} {cs : List Value} (h : AtK k48 w x cs 0) : AtK (Kd.int .i64) w x.f2.f3 cs 9 := (((((h.iso.snd rfl).snd rfl).fst.iso.snd rfl).snd rfl).snd rfl).fst
theorem at48_10 {w : World} {x : S48} {cs : List Value} (h : AtK k48 w x cs 0) : AtK (Kd.int .i64) w x.f2.f4 cs 10 := ((((((h.iso.snd rfl).snd rfl).fst.iso.snd rfl).snd rfl).snd rfl).snd rfl)
theorem at48_11 {w : World} {x : S48} {cs : List Value} (h : AtK k48 w x cs 0) : AtK (Kd.int .i64) w x.f3.f0 cs 11 := (((h.iso.snd rfl).snd rfl).snd rfl).fst.iso.fst
theorem at48_12 {w : World} {x : S48} {cs : List Value} (h : AtK k48 w x cs 0) : AtK (Kd.slice 25 (Kd.slice 3 (Kd.int .i64))) w x.f3.f1 cs 12 := ((((h.iso.snd rfl).snd rfl).snd rfl).fst.iso.snd rfl).fst
theorem at48_13 {w : World} {x : S48} {cs : List Value} (h : AtK k48 w x cs 0) : AtK (Kd.slice 25 (Kd.slice 3 (Kd.int .i64))) w x.f3.f2 cs 13 := (((((h.iso.snd rfl).snd rfl).snd rfl).fst.iso.snd rfl).snd rfl).fst
theorem at48_14 {w : World} {x : S48} {cs : List Value} (h : AtK k48 w x cs 0) : AtK (Kd.int .i64) w x.f3.f3 cs 14 := ((((((h.iso.snd rfl).snd rfl).snd rfl).fst.iso.snd rfl).snd rfl).snd rfl).fst
theorem at48_15 {w : World} {x : S48} {cs : List Value} (h : AtK k48 w x cs 0) : AtK (Kd.int .i64) w x.f3.f4 cs 15 := (((((((h.iso.snd rfl).snd rfl).snd rfl).fst.iso.snd rfl).snd rfl).snd rfl).snd rfl)
theorem at48_16 {w : World} {x : S48} {cs : List Value} (h : AtK k48 w x cs 0) : AtK (Kd.int .i64) w x.f4.f0 cs 16 := ((((h.iso.snd rfl).snd rfl).snd rfl).snd rfl).fst.iso.fst
theorem at48_17 {w : World} {x : S48} {cs : List Value} (h : AtK k48 w x cs 0) : AtK (Kd.slice 25 (Kd.slice 3 (Kd.int .i64))) w x.f4.f1 cs 17 := (((((h.iso.snd rfl).snd rfl).snd rfl).snd rfl).fst.iso.snd rfl).fst
theorem at48_18 {w : World} {x : S48} {cs : List Value} (h : AtK k48 w x cs 0) : AtK (Kd.slice 25 (Kd.slice 3 (Kd.int .i64))) w x.f4.f2 cs 18 := ((((((h.iso.snd rfl).snd rfl).snd rfl).snd rfl).fst.iso.snd rfl).snd rfl).fst
theorem at48_19 {w : World} {x : S48} {cs : List Value} (h : AtK k48 w x cs 0) : AtK (Kd.int .i64) w x.f4.f3 cs 19 := (((((((h.iso.snd rfl).snd rfl).snd rfl).snd rfl).fst.iso.snd rfl).snd rfl).snd rfl).fst
theorem at48_20 {w : World} {x : S48} {cs : List Value} (h : AtK k48 w x cs 0) : AtK (Kd.int .i64) w x.f4.f4 cs 20 := ((((((((h.iso.snd rfl).snd rfl).snd rfl).snd rfl).fst.iso.snd rfl).snd rfl).snd rfl).snd rfl)
theorem at48_21 {w : World} {x : S48} {cs : List Value} (h : AtK k48 w x cs 0) : AtK (Kd.slice 3 (Kd.int .i64)) w x.f5 cs 21 := (((((h.iso.snd rfl).snd rfl).snd rfl).snd rfl).snd rfl).fst
theorem at48_22 {w : World} {x : S48} {cs : List Value} (h : AtK k48 w x cs 0) : AtK (Kd.int .i64) w x.f6.f0 cs 22 := ((((((h.iso.snd rfl).snd rfl).snd rfl).snd rfl).snd rfl).snd rfl).fst.iso.fst
theorem at48_23 {w : World} {x : S48} {cs : List Value} (h : AtK k48 w x cs 0) : AtK (Kd.slice 25 (Kd.slice 3 (Kd.int .i64))) w x.f6.f1 cs 23 := (((((((h.iso.snd rfl).snd rfl).snd rfl).snd rfl).snd rfl).snd rfl).fst.iso.snd rfl).fst
theorem at48_24 {w : World} {x : S48} {cs : List Value} (h : AtK k48 w x cs 0) : AtK (Kd.slice 25 (Kd.slice 3 (Kd.int .i64))) w x.f6.f2 cs 24 := ((((((((h.iso.snd rfl).snd rfl).snd rfl).snd rfl).snd rfl).snd rfl).fst.iso.snd rfl).snd rfl).fst
theorem at48_25 {w : World} {x : S48} {cs : List Value} (h : AtK k48 w x cs 0) : AtK (Kd.int .i64) w x.f6.f3 cs 25 := (((((((((h.iso.snd rfl).snd rfl).snd rfl).snd rfl).snd rfl).snd rfl).fst.iso.snd rfl).snd rfl).snd rfl).fst
theorem at48_26 {w : World} {x : S48} {cs : List Value} (h : AtK k48 w x cs 0) : AtK (Kd.int .i64) w x.f6.f4 cs 26 := ((((((((((h.iso.snd rfl).snd rfl).snd rfl).snd rfl).snd rfl).snd rfl).fst.iso.snd rfl).snd rfl).snd rfl).snd rfl)
theorem at48_27 {w : World} {x : S48} {cs : List Value} (h : AtK k48 w x cs 0) : AtK (Kd.int .i64) w x.f7.f0 cs 27 := (((((((h.iso.snd rfl).snd rfl).snd rfl).snd rfl).snd rfl).snd rfl).snd rfl).iso.fst
theorem at48_28 {w : World} {x : S48} {cs : List Value} (h : AtK k48 w x cs 0) : AtK (Kd.slice 25 (Kd.slice 3 (Kd.int .i64))) w x.f7.f1 cs 28 := ((((((((h.iso.snd rfl).snd rfl).snd rfl).snd rfl).snd rfl).snd rfl).snd rfl).iso.snd rfl).fst
theorem at48_29 {w : World} {x : S48} {cs : List Value} (h : AtK k48 w x cs 0) : AtK (Kd.slice 25 (Kd.slice 3 (Kd.int .i64))) w x.f7.f2 cs 29 := (((((((((h.iso.snd rfl).snd rfl).snd rfl).snd rfl).snd rfl).snd rfl).snd rfl).iso.snd rfl).snd rfl).fst
theorem at48_30 {w : World} {x : S48} {cs : List Value} (h : AtK k48 w x cs 0) : AtK (Kd.int .i64) w x.f7.f3 cs 30 := ((((((((((h.iso.snd rfl).snd rfl).snd rfl).snd rfl).snd rfl).snd rfl).snd rfl).iso.snd rfl).snd rfl).snd rfl).fst
theorem at48_31 {w : World} {x : S48} {cs : List Value} (h : AtK k48 w x cs 0) : AtK (Kd.int .i64) w x.f7.f4 cs 31 := (((((((((((h.iso.snd rfl).snd rfl).snd rfl).snd rfl).snd rfl).snd rfl).snd rfl).iso.snd rfl).snd rfl).snd rfl).snd rfl)
theorem at112_0 {w : World} {x : S112} {cs : List Value} (h : AtK k112 w x cs 0) : AtK (Kd.int .i64) w x.f0 cs 0 := h.iso.fst
theorem at112_1 {w : World} {x : S112} {cs : List Value} (h : AtK k112 w x cs 0) : AtK (Kd.int .i64) w x.f1 cs 1 := (h.iso.snd rfl)
theorem at129_0 {w : World} {x : S129} {cs : List Value} (h : AtK k129 w x cs 0) : AtK (Kd.int .i64) w x.f0 cs 0 := h.iso.fst
theorem at129_1 {w : World} {x : S129} {cs : List Value} (h : AtK k129 w x cs 0) : AtK (Kd.int .i64) w x.f1 cs 1 := (h.iso.snd rfl)
def laws_szMatrix.g (k : Nat) (x0 : S27) (a1 : Int) : Option Int := ((laws_szIntSS.f k x0.f1 a1).bind fun t5 => (if t5 < 0 then (some (-1)) else ((laws_szIntSS.f k x0.f2 t5).bind fun t13 => (if t13 < 0 then (some (-1)) else (some t13)))))
set_option maxHeartbeats 4000000 in
set_option maxRecDepth 20000 in
theorem laws_szMatrix.runs (k : Nat) (x0 : S27) (A0_1 : Option Addr) (c0_1 : Nat) (A0_2 : Option Addr) (c0_2 : Nat) (a1 : Int) (r : Int) (w : World) (hr0_1 : (Kd.slice 3 (Kd.int .i64)).C w A0_1 x0.f1.length x0.f1) (hc0_1 : x0.f1.length ≤ c0_1) (hr0_2 : (Kd.slice 3 (Kd.int .i64)).C w A0_2 x0.f2.length x0.f2) (hc0_2 : x0.f2.length ≤ c0_2) (H : laws_szMatrix.g k x0 a1 = some r) :
    Calls Try.prog 47 #[.agg #[.int .i64 x0.f0, .slice A0_1 x0.f1.length c0_1, .slice A0_2 x0.f2.length c0_2, .int .i64 x0.f3, .int .i64 x0.f4], .int .i64 a1] w fun e w' => e = .returned (.int .i64 r) ∧ Below w.heap.size w w' := by
  unfold laws_szMatrix.g at H
  have HS : St (fun _ => True) w w [] [(fun W => (Kd.slice 3 (Kd.int .i64)).C W A0_1 x0.f1.length x0.f1), (fun W => (Kd.slice 3 (Kd.int .i64)).C W A0_2 x0.f2.length x0.f2)] [] := St.start (foot_cons (foot_C (Kd.heap_slice _ (Kd.heap_int _)) hr0_1) (foot_cons (foot_C (Kd.heap_slice _ (Kd.heap_int _)) hr0_2) foot_nil))
  refine calls_W Try.func47 rfl rfl (Nat.le_of_ble_eq_true rfl) (fun R_ hR_ => ?_)
  refine WC.seq (fun K1 hK1 => ?_)
  refine WC.region ?_
  refine WL.box HS rfl rfl (by decide) rfl rfl rfl (fun b2 w3 hb2 HS => ?_)
  refine as_ ?_
  refine WL.done ?_
  refine WQ.via (fun _ _ h_ => h_) hK1 ?_
  refine WC.seq (fun K4 hK4 => ?_)
  refine WC.region ?_
  refine v_ (Run.fieldAddr rfl rfl Try.underlying27 rfl (by kernel_rfl) rfl) ?_
  refine v_ (Run.load rfl rfl Try.underlying23 rfl (box_cell (HS.mu 0 rfl) rfl)) ?_
  refine mv_ ?_
  obtain ⟨t5, ha6, H⟩ := bind_some H
  refine c_ Try.func44 (laws_szIntSS.calls k A0_1 c0_1 x0.f1 a1 t5 _ (HS.getO 0 rfl) hc0_1 ha6) ?_
  rintro _ w7 ⟨rfl, hb⟩
  have hb := hb.below
  replace HS := HS.below hb
  refine ⟨_, rfl, ?_⟩
  clear hb
  refine as_ ?_
  refine WL.done ?_
  refine WQ.via (fun _ _ h_ => h_) hK4 ?_
  refine WC.seq (fun K8 hK8 => ?_)
  refine WC.seq (fun K9 hK9 => ?_)
  refine WC.region ?_
  refine mv_ ?_
  refine v_ (Run.bin rfl rfl rfl bin_lss) ?_
  refine WL.done ?_
  refine WQ.via (fun _ _ h_ => h_) hK9 ?_
  by_cases c10 : t5 < 0
  · rw [if_pos c10] at H
    refine WC.yes rfl (decide_eq_true c10) ?_
    refine WC.seq (fun K11 hK11 => ?_)
    refine WC.region ?_
    refine as_ ?_
    refine WL.done ?_
    refine WQ.via (fun _ _ h_ => h_) hK11 ?_
    refine WC.ret ?_
    obtain rfl := Option.some.inj H
    refine WQ.fin (e' := .ret) (fn := Try.f47) (fun _ _ h_ => h_) (WQ.ret1 rfl rfl ?_)
    exact hR_ _ _ ⟨rfl, HS.b⟩
  · rw [if_neg c10] at H
    refine WC.no rfl (decide_eq_false c10) ?_
    refine WC.skip ?_
    refine WQ.via (fun _ _ h_ => h_) hK8 ?_
    refine WC.seq (fun K12 hK12 => ?_)
    refine WC.region ?_
    refine v_ (Run.fieldAddr rfl rfl Try.underlying27 rfl (by kernel_rfl) rfl) ?_
    refine v_ (Run.load rfl rfl Try.underlying23 rfl (box_cell (HS.mu 0 rfl) rfl)) ?_
    refine mv_ ?_
    obtain ⟨t13, ha14, H⟩ := bind_some H
    refine c_ Try.func44 (laws_szIntSS.calls k A0_2 c0_2 x0.f2 t5 t13 _ (HS.getO 1 rfl) hc0_2 ha14) ?_
    rintro _ w15 ⟨rfl, hb⟩
    have hb := hb.below
    replace HS := HS.below hb
    refine ⟨_, rfl, ?_⟩
    clear hb
    refine as_ ?_
    refine WL.done ?_
    refine WQ.via (fun _ _ h_ => h_) hK12 ?_
    refine WC.seq (fun K16 hK16 => ?_)
    refine WC.seq (fun K17 hK17 => ?_)
    refine WC.region ?_
    refine mv_ ?_
    refine v_ (Run.bin rfl rfl rfl bin_lss) ?_
    refine WL.done ?_
    refine WQ.via (fun _ _ h_ => h_) hK17 ?_
    by_cases c18 : t13 < 0
    · rw [if_pos c18] at H
      refine WC.yes rfl (decide_eq_true c18) ?_
      refine WC.seq (fun K19 hK19 => ?_)
      refine WC.region ?_
      refine as_ ?_
      refine WL.done ?_
      refine WQ.via (fun _ _ h_ => h_) hK19 ?_
      refine WC.ret ?_
      obtain rfl := Option.some.inj H
      refine WQ.fin (e' := .ret) (fn := Try.f47) (fun _ _ h_ => h_) (WQ.ret1 rfl rfl ?_)
      exact hR_ _ _ ⟨rfl, HS.b⟩
    · rw [if_neg c18] at H
      refine WC.no rfl (decide_eq_false c18) ?_
      refine WC.skip ?_
      refine WQ.via (fun _ _ h_ => h_) hK16 ?_
      refine WC.seq (fun K20 hK20 => ?_)
      refine WC.region ?_
      refine mv_ ?_
      refine as_ ?_
      refine WL.done ?_
      refine WQ.via (fun _ _ h_ => h_) hK20 ?_
      refine WC.ret ?_
      obtain rfl := Option.some.inj H
      refine WQ.fin (e' := .ret) (fn := Try.f47) (fun _ _ h_ => h_) (WQ.ret1 rfl rfl ?_)
      exact hR_ _ _ ⟨rfl, HS.b⟩
def laws_szTurns.g (k : Nat) (x0 : S29) (a1 : Int) : Option Int := ((laws_szIntSS.f k x0.f0 a1).bind fun t5 => (if t5 < 0 then (some (-1)) else ((laws_szIntSS.f k x0.f1 t5).bind fun t13 => (if t13 < 0 then (some (-1)) else (some t13)))))
set_option maxHeartbeats 4000000 in
set_option maxRecDepth 20000 in
theorem laws_szTurns.runs (k : Nat) (x0 : S29) (A0_0 : Option Addr) (c0_0 : Nat) (A0_1 : Option Addr) (c0_1 : Nat) (a1 : Int) (r : Int) (w : World) (hr0_0 : (Kd.slice 3 (Kd.int .i64)).C w A0_0 x0.f0.length x0.f0) (hc0_0 : x0.f0.length ≤ c0_0) (hr0_1 : (Kd.slice 3 (Kd.int .i64)).C w A0_1 x0.f1.length x0.f1) (hc0_1 : x0.f1.length ≤ c0_1) (H : laws_szTurns.g k x0 a1 = some r) :
    Calls Try.prog 48 #[.agg #[.slice A0_0 x0.f0.length c0_0, .slice A0_1 x0.f1.length c0_1], .int .i64 a1] w fun e w' => e = .returned (.int .i64 r) ∧ Below w.heap.size w w' := by
  unfold laws_szTurns.g at H
  have HS : St (fun _ => True) w w [] [(fun W => (Kd.slice 3 (Kd.int .i64)).C W A0_0 x0.f0.length x0.f0), (fun W => (Kd.slice 3 (Kd.int .i64)).C W A0_1 x0.f1.length x0.f1)] [] := St.start (foot_cons (foot_C (Kd.heap_slice _ (Kd.heap_int _)) hr0_0) (foot_cons (foot_C (Kd.heap_slice _ (Kd.heap_int _)) hr0_1) foot_nil))
  refine calls_W Try.func48 rfl rfl (Nat.le_of_ble_eq_true rfl) (fun R_ hR_ => ?_)
  refine WC.seq (fun K1 hK1 => ?_)
  refine WC.region ?_
  refine WL.box HS rfl rfl (by decide) rfl rfl rfl (fun b2 w3 hb2 HS => ?_)
  refine as_ ?_
  refine WL.done ?_
  refine WQ.via (fun _ _ h_ => h_) hK1 ?_
  refine WC.seq (fun K4 hK4 => ?_)
  refine WC.region ?_
  refine v_ (Run.fieldAddr rfl rfl Try.underlying29 rfl (by kernel_rfl) rfl) ?_
  refine v_ (Run.load rfl rfl Try.underlying23 rfl (box_cell (HS.mu 0 rfl) rfl)) ?_
  refine mv_ ?_
  obtain ⟨t5, ha6, H⟩ := bind_some H
  refine c_ Try.func44 (laws_szIntSS.calls k A0_0 c0_0 x0.f0 a1 t5 _ (HS.getO 0 rfl) hc0_0 ha6) ?_
  rintro _ w7 ⟨rfl, hb⟩
  have hb := hb.below
  replace HS := HS.below hb
  refine ⟨_, rfl, ?_⟩
  clear hb
  refine as_ ?_
  refine WL.done ?_
  refine WQ.via (fun _ _ h_ => h_) hK4 ?_
  refine WC.seq (fun K8 hK8 => ?_)
  refine WC.seq (fun K9 hK9 => ?_)
  refine WC.region ?_
  refine mv_ ?_
  refine v_ (Run.bin rfl rfl rfl bin_lss) ?_
  refine WL.done ?_
  refine WQ.via (fun _ _ h_ => h_) hK9 ?_
  by_cases c10 : t5 < 0
  · rw [if_pos c10] at H
    refine WC.yes rfl (decide_eq_true c10) ?_
    refine WC.seq (fun K11 hK11 => ?_)
    refine WC.region ?_
    refine as_ ?_
    refine WL.done ?_
    refine WQ.via (fun _ _ h_ => h_) hK11 ?_
    refine WC.ret ?_
    obtain rfl := Option.some.inj H
    refine WQ.fin (e' := .ret) (fn := Try.f48) (fun _ _ h_ => h_) (WQ.ret1 rfl rfl ?_)
    exact hR_ _ _ ⟨rfl, HS.b⟩
  · rw [if_neg c10] at H
    refine WC.no rfl (decide_eq_false c10) ?_
    refine WC.skip ?_
    refine WQ.via (fun _ _ h_ => h_) hK8 ?_
    refine WC.seq (fun K12 hK12 => ?_)
    refine WC.region ?_
    refine v_ (Run.fieldAddr rfl rfl Try.underlying29 rfl (by kernel_rfl) rfl) ?_
    refine v_ (Run.load rfl rfl Try.underlying23 rfl (box_cell (HS.mu 0 rfl) rfl)) ?_
    refine mv_ ?_
    obtain ⟨t13, ha14, H⟩ := bind_some H
    refine c_ Try.func44 (laws_szIntSS.calls k A0_1 c0_1 x0.f1 t5 t13 _ (HS.getO 1 rfl) hc0_1 ha14) ?_
    rintro _ w15 ⟨rfl, hb⟩
    have hb := hb.below
    replace HS := HS.below hb
    refine ⟨_, rfl, ?_⟩
    clear hb
    refine as_ ?_
    refine WL.done ?_
    refine WQ.via (fun _ _ h_ => h_) hK12 ?_
    refine WC.seq (fun K16 hK16 => ?_)
    refine WC.seq (fun K17 hK17 => ?_)
    refine WC.region ?_
    refine mv_ ?_
    refine v_ (Run.bin rfl rfl rfl bin_lss) ?_
    refine WL.done ?_
    refine WQ.via (fun _ _ h_ => h_) hK17 ?_
    by_cases c18 : t13 < 0
    · rw [if_pos c18] at H
      refine WC.yes rfl (decide_eq_true c18) ?_
      refine WC.seq (fun K19 hK19 => ?_)
      refine WC.region ?_
      refine as_ ?_
      refine WL.done ?_
      refine WQ.via (fun _ _ h_ => h_) hK19 ?_
      refine WC.ret ?_
      obtain rfl := Option.some.inj H
      refine WQ.fin (e' := .ret) (fn := Try.f48) (fun _ _ h_ => h_) (WQ.ret1 rfl rfl ?_)
      exact hR_ _ _ ⟨rfl, HS.b⟩
    · rw [if_neg c18] at H
      refine WC.no rfl (decide_eq_false c18) ?_
      refine WC.skip ?_
      refine WQ.via (fun _ _ h_ => h_) hK16 ?_
      refine WC.seq (fun K20 hK20 => ?_)
      refine WC.region ?_
      refine mv_ ?_
      refine as_ ?_
      refine WL.done ?_
      refine WQ.via (fun _ _ h_ => h_) hK20 ?_
      refine WC.ret ?_
      obtain rfl := Option.some.inj H
      refine WQ.fin (e' := .ret) (fn := Try.f48) (fun _ _ h_ => h_) (WQ.ret1 rfl rfl ?_)
      exact hR_ _ _ ⟨rfl, HS.b⟩
def laws_toMerge.g (k : Nat) (x0 : S129) : Option S112 := (some (⟨x0.f0, x0.f1⟩ : S112))
set_option maxHeartbeats 4000000 in
set_option maxRecDepth 20000 in
theorem laws_toMerge.runs (k : Nat) (x0 : S129) (r : S112) (w : World) (H : laws_toMerge.g k x0 = some r) :
    Calls Try.prog 118 #[.agg #[.int .i64 x0.f0, .int .i64 x0.f1]] w fun e w' => e = .returned (.agg #[.int .i64 r.f0, .int .i64 r.f1]) ∧ Below w.heap.size w w' := by
  unfold laws_toMerge.g at H
  have HS : St (fun _ => True) w w [] [] [] := St.start foot_nil
  refine calls_W Try.func118 rfl rfl (Nat.le_of_ble_eq_true rfl) (fun R_ hR_ => ?_)
  refine WC.seq (fun K1 hK1 => ?_)
  refine WC.region ?_
  refine WL.box HS rfl rfl (by decide) rfl rfl rfl (fun b2 w3 hb2 HS => ?_)
  refine WL.alloc HS (v := .agg #[.int .i64 0, .int .i64 0]) (cs := #[.int .i64 0, .int .i64 0]) rfl rfl (by decide) rfl (by kernel_rfl) rfl (fun b4 w5 hb4 HS => ?_)
  refine WL.done ?_
  refine WQ.via (fun _ _ h_ => h_) hK1 ?_
  refine WC.seq (fun K6 hK6 => ?_)
  refine WC.region ?_
  refine WL.alloc HS (v := .agg #[.int .i64 0, .int .i64 0]) (cs := #[.int .i64 0, .int .i64 0]) rfl rfl (by decide) rfl (by kernel_rfl) rfl (fun b7 w8 hb7 HS => ?_)
  refine WL.done ?_
  refine WQ.via (fun _ _ h_ => h_) hK6 ?_
  refine WC.seq (fun K9 hK9 => ?_)
  refine WC.region ?_
  refine v_ (Run.fieldAddr rfl rfl Try.underlying129 rfl (by kernel_rfl) rfl) ?_
  refine v_ (Run.load rfl rfl Try.underlying3 rfl (box_cell (HS.mu 2 rfl) rfl)) ?_
  refine v_ (Run.fieldAddr rfl rfl Try.underlying112 rfl (by kernel_rfl) rfl) ?_
  refine WL.store HS 0 rfl rfl rfl rfl rfl rfl rfl (by kernel_rfl) (Nat.le_of_ble_eq_true rfl) (cs' := #[.int .i64 x0.f0, .int .i64 0]) (by kernel_rfl) (fun w10 HS => ?_)
  refine WL.done ?_
  refine WQ.via (fun _ _ h_ => h_) hK9 ?_
  refine WC.seq (fun K11 hK11 => ?_)
  refine WC.region ?_
  refine v_ (Run.fieldAddr rfl rfl Try.underlying129 rfl (by kernel_rfl) rfl) ?_
  refine v_ (Run.load rfl rfl Try.underlying3 rfl (box_cell (HS.mu 2 rfl) rfl)) ?_
  refine v_ (Run.fieldAddr rfl rfl Try.underlying112 rfl (by kernel_rfl) rfl) ?_
  refine WL.store HS 0 rfl rfl rfl rfl rfl rfl rfl (by kernel_rfl) (Nat.le_of_ble_eq_true rfl) (cs' := #[.int .i64 x0.f0, .int .i64 x0.f1]) (by kernel_rfl) (fun w12 HS => ?_)
  refine WL.done ?_
  refine WQ.via (fun _ _ h_ => h_) hK11 ?_
  refine WC.seq (fun K13 hK13 => ?_)
  refine WC.region ?_
  refine v_ (Run.loadS (cs := [.int .i64 x0.f0, .int .i64 x0.f1]) rfl rfl Try.underlying112 rfl (by kernel_rfl) (box_part (HS.mu 0 rfl) part_all)) ?_
  refine WL.storeS HS 1 (vs := [.int .i64 x0.f0, .int .i64 x0.f1]) rfl rfl rfl rfl rfl rfl (one_cons rfl (one_cons rfl one_nil)) (by kernel_rfl) (Nat.le_of_ble_eq_true rfl) (cs' := #[.int .i64 x0.f0, .int .i64 x0.f1]) (by kernel_rfl) (fun w14 HS => ?_)
  refine WL.done ?_
  refine WQ.via (fun _ _ h_ => h_) hK13 ?_
  refine WC.ret ?_
  obtain rfl := Option.some.inj H
  refine WQ.fin (e' := .ret) (fn := Try.f118) (fun _ _ h_ => h_) (WQ.ret1 rfl ⟨_, rfl, resv_box (HS.mu 1 rfl) Try.underlying112 rfl (by kernel_rfl)⟩ ?_)
  exact hR_ _ _ ⟨rfl, HS.b⟩
def laws_toMergeS.b0 (l0 : List S129) (rec_ : Int → (List S112) → Option (Int × (List S112))) (k27 : Nat) (i15 : Int) (xs16 : List S112) : Option (Int × (List S112)) := (if i15 < (l0.length : Int) then (if 0 ≤ i15 ∧ i15 < (l0.length : Int) then ((laws_toMerge.g k27 (l0.getD i15.toNat o129)).bind fun t37 => (if 0 ≤ i15 ∧ i15 < ((xs16.length : Nat) : Int) then (rec_ (wrap64 (i15 + 1)) (xs16.set i15.toNat t37)) else none)) else none) else (some (i15, xs16)))
def laws_toMergeS.l0 (l0 : List S129) : Nat → Int → (List S112) → Option (Int × (List S112))
  | 0, _, _ => none
  | k + 1, i15, xs16 => laws_toMergeS.b0 l0 (laws_toMergeS.l0 l0 k) k i15 xs16
def laws_toMergeS.g (k : Nat) (l0 : List S129) : Option (List S112) := (if 0 ≤ (l0.length : Int) ∧ (l0.length : Int) < 4294967296 then ((laws_toMergeS.l0 l0 k 0 (List.replicate (l0.length : Int).toNat o112)).bind (fun o25 => (some o25.2))) else none)
set_option maxHeartbeats 4000000 in
set_option maxRecDepth 20000 in
theorem laws_toMergeS.runs (k : Nat) (A0 : Option Addr) (c0 : Nat) (l0 : List S129) (r : List S112) (w : World) (hr0 : k129.C w A0 l0.length l0) (hc0 : l0.length ≤ c0) (H : laws_toMergeS.g k l0 = some r) :
    Calls Try.prog 49 #[.slice A0 l0.length c0] w fun e w' => ∃ (A0_ : Option Addr) (c0_ : Nat), e = .returned (.slice A0_ r.length c0_) ∧ r.length ≤ c0_ ∧ Foot (fun W => k112.C W A0_ r.length r) w' (fun k_ => w.heap.size ≤ k_) ∧ Below w.heap.size w w' := by
  unfold laws_toMergeS.g at H
  have HS : St (fun _ => True) w w [] [(fun W => k129.C W A0 l0.length l0)] [] := St.start (foot_cons (foot_C h129 hr0) foot_nil)
  refine calls_W Try.func49 rfl rfl (Nat.le_of_ble_eq_true rfl) (fun R_ hR_ => ?_)
  refine WC.seq (fun K1 hK1 => ?_)
  refine WC.region ?_
  refine as_ ?_
  refine WL.done ?_
  refine WQ.via (fun _ _ h_ => h_) hK1 ?_
  refine WC.seq (fun K2 hK2 => ?_)
  refine WC.region ?_
  refine mv_ ?_
  refine v_ (Run.len (ts := #[]) rfl Try.underlying22 rfl) ?_
  obtain ⟨⟨q3, q4⟩, H⟩ := if_some H
  refine WL.make k112 HS rfl rfl (by decide) rfl rfl rfl (.agg #[.int .i64 0, .int .i64 0]) 16 o112 Try.underlying34 (by kernel_rfl) rfl (by decide) (by decide) (fun _ => (k112_mk _ o112)) q3 (by omega) (fun v5 w6 I7 hI8 HS => ?_)
  replace HS := HS.deriveN (p := (fun W => Reps (k112.K W) k112.sz (List.replicate (l0.length : Int).toNat o112) I7)) (fun W_ hN_ => hI8 W_)
  refine as_ ?_
  refine WL.done ?_
  refine WQ.via (fun _ _ h_ => h_) hK2 ?_
  refine WC.seq (fun K9 hK9 => ?_)
  refine WC.seq (fun K10 hK10 => ?_)
  refine WC.region ?_
  refine as_ ?_
  refine WL.done ?_
  refine WQ.via (fun _ _ h_ => h_) hK10 ?_
  refine WC.block ?_
  obtain ⟨G11, hG12, o13, H, Ho14⟩ := open_G H
  have X19 : ∀ E_ W_, (∃ (i15 : Int) (xs16 : List S112) (v17 : Value) (I18 : List Value), E_ = [(0, .slice A0 l0.length c0), (3, v17), (4, .int .i64 i15)] ∧ G11 (i15, xs16) = some r ∧ St (fun _ => True) w W_ [rowM w.heap.size 112 2 v17 xs16.length I18] [(fun W => k129.C W A0 l0.length l0)] [(fun W => Reps (k112.K W) k112.sz xs16 I18)]) → ∀ a, Fits a 23 E_ → K9 a W_ := by
    rintro E_ w20 ⟨i15, xs16, v17, I18, rfl, H, HS⟩
    rw [hG12] at H
    (try dsimp only at H)
    refine hK9 _ _ ?_
    refine WC.seq (fun K21 hK21 => ?_)
    refine WC.region ?_
    refine mv_ ?_
    refine as_ ?_
    refine WL.done ?_
    refine WQ.via (fun _ _ h_ => h_) hK21 ?_
    refine WC.ret ?_
    obtain ⟨A22, c23, rfl⟩ := row_slice (HS.mu 0 rfl)
    have le24 := row_le (HS.mu 0 rfl)
    replace HS := HS.freezeN 0 (p := (fun W => k112.C W A22 (xs16).length (xs16))) rfl (fun W_ hm_ h_ => row_C (by rfl) hm_ (AllF.get 0 rfl h_))
    obtain rfl := Option.some.inj H
    refine WQ.fin (e' := .ret) (fn := Try.f49) (fun _ _ h_ => h_) (WQ.ret1 rfl rfl ?_)
    exact hR_ _ _ ⟨_, _, rfl, le24, (foot_fresh (HS.footN 0 rfl)), HS.b⟩
  refine WC.loop (fun k_ E_ W_ => ∃ (i15 : Int) (xs16 : List S112) (v17 : Value) (I18 : List Value), E_ = [(0, .slice A0 l0.length c0), (3, v17), (4, .int .i64 i15)] ∧ (∃ o_, laws_toMergeS.l0 l0 k_ i15 xs16 = some o_ ∧ G11 o_ = some r) ∧ St (fun _ => True) w W_ [rowM w.heap.size 112 2 v17 xs16.length I18] [(fun W => k129.C W A0 l0.length l0)] [(fun W => Reps (k112.K W) k112.sz xs16 I18)]) k ⟨0, (List.replicate (l0.length : Int).toNat o112), v5, I7, rfl, ⟨_, H, Ho14⟩, (St.pick HS (fun W_ h_ => ⟨AllF.get 0 rfl h_, trivial⟩) (fun W_ h_ => ⟨AllF.get 0 rfl h_, trivial⟩))⟩ ⟨rfl, rfl, rfl, trivial⟩ ?_
  rintro k_ E_ w26 ⟨i15, xs16, v17, I18, rfl, ⟨o13, H, Ho14⟩, HS⟩
  rcases k_ with _ | k27
  · exact (Option.some_ne_none _ (show none = some _ from H).symm).elim
  replace H : laws_toMergeS.b0 l0 (laws_toMergeS.l0 l0 k27) k27 i15 xs16 = some o13 := H
  unfold laws_toMergeS.b0 at H
  refine WC.seq (fun K28 hK28 => ?_)
  refine WC.seq (fun K29 hK29 => ?_)
  refine WC.region ?_
  refine mv_ ?_
  refine mv_ ?_
  refine v_ (Run.len (ts := #[]) rfl Try.underlying22 rfl) ?_
  refine v_ (Run.bin rfl rfl rfl bin_lss) ?_
  refine WL.done ?_
  refine WQ.via (fun _ _ h_ => h_) hK29 ?_
  by_cases c30 : i15 < (l0.length : Int)
  · rw [if_pos c30] at H
    refine WC.yes rfl (decide_eq_true c30) ?_
    refine WC.skip ?_
    refine WQ.via (fun _ _ h_ => h_) hK28 ?_
    refine WC.seq (fun K31 hK31 => ?_)
    refine WC.block ?_
    refine WC.region ?_
    refine mv_ ?_
    refine mv_ ?_
    refine mv_ ?_
    refine mv_ ?_
    obtain ⟨⟨q32, q33⟩, H⟩ := if_some H
    obtain ⟨ad34, rfl⟩ := C_open (HS.getO 0 rfl) (by omega)
    refine v_ (Run.indexAddr rfl rfl rfl Try.underlying22 (sz := 2) (by kernel_rfl) q32 q33) ?_
    obtain ⟨e35, el36, HS⟩ := HS.elO 0 rfl (by decide) o129 i15 q32 q33
    refine v_ (Run.loadS (cs := [.int .i64 ((l0.getD i15.toNat o129).f0), .int .i64 ((l0.getD i15.toNat o129).f1)]) rfl rfl Try.underlying129 rfl (by kernel_rfl) (cells_part (HS.getO 0 rfl).2 (part_cons (at129_0 (AtK.whole (HS.getO 0 rfl).1)).int (part_cons (at129_1 (AtK.whole (HS.getO 0 rfl).1)).int part_nil)))) ?_
    obtain ⟨t37, ha38, H⟩ := bind_some H
    refine c_ Try.func118 (laws_toMerge.runs k27 (l0.getD i15.toNat o129) t37 _  ha38) ?_
    rintro _ w39 ⟨rfl, hb⟩
    replace HS := HS.below hb
    refine ⟨_, rfl, ?_⟩
    clear hb
    obtain ⟨⟨q40, q41⟩, H⟩ := if_some H
    obtain ⟨A42, c43, rfl⟩ := row_slice (HS.mu 0 rfl)
    obtain ⟨ad44, rfl⟩ := row_open (HS.mu 0 rfl) (by omega)
    refine v_ (Run.indexAddr rfl rfl rfl Try.underlying34 (sz := 2) (by kernel_rfl) q40 q41) ?_
    have hk_ := mul_room q40 q41 2
    refine WL.putEl HS 0 rfl rfl rfl rfl rfl rfl [.int .i64 t37.f0, .int .i64 t37.f1] rfl (one_cons rfl (one_cons rfl one_nil)) (by kernel_rfl) (by first | omega | (rw [List.length_nil]; omega) | (simp; omega)) (fun w45 I46 hI47 HS => ?_)
    clear hk_
    replace HS := HS.deriveN (p := (fun W => Reps (k112.K W) k112.sz (xs16.set i15.toNat t37) I46)) (fun W_ hN_ => reps_set hI47 (AllF.get 0 rfl hN_) (k112_mk _ t37) (toNat_lt q40 q41))
    replace HS := HS.rowN 0 rfl (show xs16.length = (xs16.set i15.toNat t37).length from (List.length_set ..).symm)
    refine WL.done ?_
    refine WQ.via (fun _ _ h_ => h_) hK31 ?_
    refine WC.region ?_
    refine mv_ ?_
    refine v_ (Run.bin rfl rfl rfl bin_add64) ?_
    refine as_ ?_
    refine WL.done ?_
    exact WQ.round k27 (fun _ _ h_ => h_) (Nat.lt_succ_self _) ⟨(wrap64 (i15 + 1)), (xs16.set i15.toNat t37), (.slice (some ad44) xs16.length c43), I46, rfl, ⟨_, H, Ho14⟩, (St.pick HS (fun W_ h_ => ⟨AllF.get 1 rfl h_, trivial⟩) (fun W_ h_ => ⟨AllF.get 0 rfl h_, trivial⟩))⟩ ⟨rfl, rfl, rfl, trivial⟩
  · rw [if_neg c30] at H
    refine WC.no rfl (decide_eq_false c30) ?_
    refine WC.exit ?_
    obtain rfl := Option.some.inj H
    exact WQ.via2 (fun _ _ h_ => h_) X19 ⟨i15, xs16, v17, I18, rfl, Ho14, (St.pick HS (fun W_ h_ => ⟨AllF.get 0 rfl h_, trivial⟩) (fun W_ h_ => ⟨AllF.get 0 rfl h_, trivial⟩))⟩ ⟨rfl, rfl, rfl, trivial⟩
def laws_toMatrix.g (k : Nat) (x0 : S27) : Option S36 := ((laws_toIntSS.f k x0.f1).bind fun t12 => ((laws_toIntSS.f k x0.f2).bind fun t23 => (some (⟨x0.f0, t12, t23, x0.f3, x0.f4⟩ : S36))))
set_option maxHeartbeats 4000000 in
set_option maxRecDepth 20000 in
theorem laws_toMatrix.runs (k : Nat) (x0 : S27) (A0_1 : Option Addr) (c0_1 : Nat) (A0_2 : Option Addr) (c0_2 : Nat) (r : S36) (w : World) (hr0_1 : (Kd.slice 3 (Kd.int .i64)).C w A0_1 x0.f1.length x0.f1) (hc0_1 : x0.f1.length ≤ c0_1) (hr0_2 : (Kd.slice 3 (Kd.int .i64)).C w A0_2 x0.f2.length x0.f2) (hc0_2 : x0.f2.length ≤ c0_2) (H : laws_toMatrix.g k x0 = some r) :
    Calls Try.prog 53 #[.agg #[.int .i64 x0.f0, .slice A0_1 x0.f1.length c0_1, .slice A0_2 x0.f2.length c0_2, .int .i64 x0.f3, .int .i64 x0.f4]] w fun e w' => ∃ (A0_1_ : Option Addr) (c0_1_ : Nat) (A0_2_ : Option Addr) (c0_2_ : Nat), e = .returned (.agg #[.int .i64 r.f0, .slice A0_1_ r.f1.length c0_1_, .slice A0_2_ r.f2.length c0_2_, .int .i64 r.f3, .int .i64 r.f4]) ∧ r.f1.length ≤ c0_1_ ∧ Foot (fun W => (Kd.slice 3 (Kd.int .i64)).C W A0_1_ r.f1.length r.f1) w' (fun k_ => w.heap.size ≤ k_) ∧ r.f2.length ≤ c0_2_ ∧ Foot (fun W => (Kd.slice 3 (Kd.int .i64)).C W A0_2_ r.f2.length r.f2) w' (fun k_ => w.heap.size ≤ k_) ∧ Below w.heap.size w w' := by
  unfold laws_toMatrix.g at H
  have HS : St (fun _ => True) w w [] [(fun W => (Kd.slice 3 (Kd.int .i64)).C W A0_1 x0.f1.length x0.f1), (fun W => (Kd.slice 3 (Kd.int .i64)).C W A0_2 x0.f2.length x0.f2)] [] := St.start (foot_cons (foot_C (Kd.heap_slice _ (Kd.heap_int _)) hr0_1) (foot_cons (foot_C (Kd.heap_slice _ (Kd.heap_int _)) hr0_2) foot_nil))
  refine calls_W Try.func53 rfl rfl (Nat.le_of_ble_eq_true rfl) (fun R_ hR_ => ?_)
  refine WC.seq (fun K1 hK1 => ?_)
  refine WC.region ?_
  refine WL.box HS rfl rfl (by decide) rfl rfl rfl (fun b2 w3 hb2 HS => ?_)
  refine WL.alloc HS (v := .agg #[.int .i64 0, .slice none 0 0, .slice none 0 0, .int .i64 0, .int .i64 0]) (cs := #[.int .i64 0, .slice none 0 0, .slice none 0 0, .int .i64 0, .int .i64 0]) rfl rfl (by decide) rfl (by kernel_rfl) rfl (fun b4 w5 hb4 HS => ?_)
  refine WL.done ?_
  refine WQ.via (fun _ _ h_ => h_) hK1 ?_
  refine WC.seq (fun K6 hK6 => ?_)
  refine WC.region ?_
  refine WL.alloc HS (v := .agg #[.int .i64 0, .slice none 0 0, .slice none 0 0, .int .i64 0, .int .i64 0]) (cs := #[.int .i64 0, .slice none 0 0, .slice none 0 0, .int .i64 0, .int .i64 0]) rfl rfl (by decide) rfl (by kernel_rfl) rfl (fun b7 w8 hb7 HS => ?_)
  refine WL.done ?_
  refine WQ.via (fun _ _ h_ => h_) hK6 ?_
  refine WC.seq (fun K9 hK9 => ?_)
  refine WC.region ?_
  refine v_ (Run.fieldAddr rfl rfl Try.underlying27 rfl (by kernel_rfl) rfl) ?_
  refine v_ (Run.load rfl rfl Try.underlying3 rfl (box_cell (HS.mu 2 rfl) rfl)) ?_
  refine v_ (Run.fieldAddr rfl rfl Try.underlying36 rfl (by kernel_rfl) rfl) ?_
  refine WL.store HS 0 rfl rfl rfl rfl rfl rfl rfl (by kernel_rfl) (Nat.le_of_ble_eq_true rfl) (cs' := #[.int .i64 x0.f0, .slice none 0 0, .slice none 0 0, .int .i64 0, .int .i64 0]) (by kernel_rfl) (fun w10 HS => ?_)
  refine WL.done ?_
  refine WQ.via (fun _ _ h_ => h_) hK9 ?_
  refine WC.seq (fun K11 hK11 => ?_)
  refine WC.region ?_
  refine v_ (Run.fieldAddr rfl rfl Try.underlying27 rfl (by kernel_rfl) rfl) ?_
  refine v_ (Run.load rfl rfl Try.underlying23 rfl (box_cell (HS.mu 2 rfl) rfl)) ?_
  obtain ⟨t12, ha13, H⟩ := bind_some H
  refine c_ Try.func50 (laws_toIntSS.calls k A0_1 c0_1 x0.f1 t12 _ (HS.getO 0 rfl) hc0_1 ha13) ?_
  rintro _ w14 ⟨v15, rfl, h16, hb⟩
  obtain ⟨A17, c18, rfl, le19, hf20⟩ := res_S h16
  replace HS := HS.newNs hb (ps := [(fun W => (Kd.slice 3 (Kd.int .i64)).C W A17 t12.length t12)]) (foot_cons hf20 foot_nil)
  refine ⟨_, rfl, ?_⟩
  clear hb
  refine v_ (Run.fieldAddr rfl rfl Try.underlying36 rfl (by kernel_rfl) rfl) ?_
  refine WL.store HS 0 rfl rfl rfl rfl rfl rfl rfl (by kernel_rfl) (Nat.le_of_ble_eq_true rfl) (cs' := #[.int .i64 x0.f0, .slice A17 t12.length c18, .slice none 0 0, .int .i64 0, .int .i64 0]) (by kernel_rfl) (fun w21 HS => ?_)
  refine WL.done ?_
  refine WQ.via (fun _ _ h_ => h_) hK11 ?_
  refine WC.seq (fun K22 hK22 => ?_)
  refine WC.region ?_
  refine v_ (Run.fieldAddr rfl rfl Try.underlying27 rfl (by kernel_rfl) rfl) ?_
  refine v_ (Run.load rfl rfl Try.underlying23 rfl (box_cell (HS.mu 2 rfl) rfl)) ?_
  obtain ⟨t23, ha24, H⟩ := bind_some H
  refine c_ Try.func50 (laws_toIntSS.calls k A0_2 c0_2 x0.f2 t23 _ (HS.getO 1 rfl) hc0_2 ha24) ?_
  rintro _ w25 ⟨v26, rfl, h27, hb⟩
  obtain ⟨A28, c29, rfl, le30, hf31⟩ := res_S h27
  replace HS := HS.newNs hb (ps := [(fun W => (Kd.slice 3 (Kd.int .i64)).C W A28 t23.length t23)]) (foot_cons hf31 foot_nil)
  refine ⟨_, rfl, ?_⟩
  clear hb
  refine v_ (Run.fieldAddr rfl rfl Try.underlying36 rfl (by kernel_rfl) rfl) ?_
  refine WL.store HS 0 rfl rfl rfl rfl rfl rfl rfl (by kernel_rfl) (Nat.le_of_ble_eq_true rfl) (cs' := #[.int .i64 x0.f0, .slice A17 t12.length c18, .slice A28 t23.length c29, .int .i64 0, .int .i64 0]) (by kernel_rfl) (fun w32 HS => ?_)
  refine WL.done ?_
  refine WQ.via (fun _ _ h_ => h_) hK22 ?_
  refine WC.seq (fun K33 hK33 => ?_)
  refine WC.region ?_
  refine v_ (Run.fieldAddr rfl rfl Try.underlying27 rfl (by kernel_rfl) rfl) ?_
  refine v_ (Run.load rfl rfl Try.underlying3 rfl (box_cell (HS.mu 2 rfl) rfl)) ?_
  refine v_ (Run.fieldAddr rfl rfl Try.underlying36 rfl (by kernel_rfl) rfl) ?_
  refine WL.store HS 0 rfl rfl rfl rfl rfl rfl rfl (by kernel_rfl) (Nat.le_of_ble_eq_true rfl) (cs' := #[.int .i64 x0.f0, .slice A17 t12.length c18, .slice A28 t23.length c29, .int .i64 x0.f3, .int .i64 0]) (by kernel_rfl) (fun w34 HS => ?_)
  refine WL.done ?_
  refine WQ.via (fun _ _ h_ => h_) hK33 ?_
  refine WC.seq (fun K35 hK35 => ?_)
  refine WC.region ?_
  refine v_ (Run.fieldAddr rfl rfl Try.underlying27 rfl (by kernel_rfl) rfl) ?_
  refine v_ (Run.load rfl rfl Try.underlying3 rfl (box_cell (HS.mu 2 rfl) rfl)) ?_
  refine v_ (Run.fieldAddr rfl rfl Try.underlying36 rfl (by kernel_rfl) rfl) ?_
  refine WL.store HS 0 rfl rfl rfl rfl rfl rfl rfl (by kernel_rfl) (Nat.le_of_ble_eq_true rfl) (cs' := #[.int .i64 x0.f0, .slice A17 t12.length c18, .slice A28 t23.length c29, .int .i64 x0.f3, .int .i64 x0.f4]) (by kernel_rfl) (fun w36 HS => ?_)
  refine WL.done ?_
  refine WQ.via (fun _ _ h_ => h_) hK35 ?_
  refine WC.seq (fun K37 hK37 => ?_)
  refine WC.region ?_
  refine v_ (Run.loadS (cs := [.int .i64 x0.f0, .slice A17 t12.length c18, .slice A28 t23.length c29, .int .i64 x0.f3, .int .i64 x0.f4]) rfl rfl Try.underlying36 rfl (by kernel_rfl) (box_part (HS.mu 0 rfl) part_all)) ?_
  refine WL.storeS HS 1 (vs := [.int .i64 x0.f0, .slice A17 t12.length c18, .slice A28 t23.length c29, .int .i64 x0.f3, .int .i64 x0.f4]) rfl rfl rfl rfl rfl rfl (one_cons rfl (one_cons rfl (one_cons rfl (one_cons rfl (one_cons rfl one_nil))))) (by kernel_rfl) (Nat.le_of_ble_eq_true rfl) (cs' := #[.int .i64 x0.f0, .slice A17 t12.length c18, .slice A28 t23.length c29, .int .i64 x0.f3, .int .i64 x0.f4]) (by kernel_rfl) (fun w38 HS => ?_)
  refine WL.done ?_
  refine WQ.via (fun _ _ h_ => h_) hK37 ?_
  refine WC.ret ?_
  obtain rfl := Option.some.inj H
  refine WQ.fin (e' := .ret) (fn := Try.f53) (fun _ _ h_ => h_) (WQ.ret1 rfl ⟨_, rfl, resv_box (HS.mu 1 rfl) Try.underlying36 rfl (by kernel_rfl)⟩ ?_)
  exact hR_ _ _ ⟨_, _, _, _, rfl, le19, (foot_fresh (HS.footN 1 rfl)), le30, (foot_fresh (HS.footN 0 rfl)), HS.b⟩
def laws_toTurns.g (k : Nat) (x0 : S29) : Option S37 := ((laws_toIntSS.f k x0.f0).bind fun t10 => ((laws_toIntSS.f k x0.f1).bind fun t21 => (some (⟨t10, t21⟩ : S37))))
set_option maxHeartbeats 4000000 in
set_option maxRecDepth 20000 in
theorem laws_toTurns.runs (k : Nat) (x0 : S29) (A0_0 : Option Addr) (c0_0 : Nat) (A0_1 : Option Addr) (c0_1 : Nat) (r : S37) (w : World) (hr0_0 : (Kd.slice 3 (Kd.int .i64)).C w A0_0 x0.f0.length x0.f0) (hc0_0 : x0.f0.length ≤ c0_0) (hr0_1 : (Kd.slice 3 (Kd.int .i64)).C w A0_1 x0.f1.length x0.f1) (hc0_1 : x0.f1.length ≤ c0_1) (H : laws_toTurns.g k x0 = some r) :
    Calls Try.prog 54 #[.agg #[.slice A0_0 x0.f0.length c0_0, .slice A0_1 x0.f1.length c0_1]] w fun e w' => ∃ (A0_0_ : Option Addr) (c0_0_ : Nat) (A0_1_ : Option Addr) (c0_1_ : Nat), e = .returned (.agg #[.slice A0_0_ r.f0.length c0_0_, .slice A0_1_ r.f1.length c0_1_]) ∧ r.f0.length ≤ c0_0_ ∧ Foot (fun W => (Kd.slice 3 (Kd.int .i64)).C W A0_0_ r.f0.length r.f0) w' (fun k_ => w.heap.size ≤ k_) ∧ r.f1.length ≤ c0_1_ ∧ Foot (fun W => (Kd.slice 3 (Kd.int .i64)).C W A0_1_ r.f1.length r.f1) w' (fun k_ => w.heap.size ≤ k_) ∧ Below w.heap.size w w' := by
  unfold laws_toTurns.g at H
  have HS : St (fun _ => True) w w [] [(fun W => (Kd.slice 3 (Kd.int .i64)).C W A0_0 x0.f0.length x0.f0), (fun W => (Kd.slice 3 (Kd.int .i64)).C W A0_1 x0.f1.length x0.f1)] [] := St.start (foot_cons (foot_C (Kd.heap_slice _ (Kd.heap_int _)) hr0_0) (foot_cons (foot_C (Kd.heap_slice _ (Kd.heap_int _)) hr0_1) foot_nil))
  refine calls_W Try.func54 rfl rfl (Nat.le_of_ble_eq_true rfl) (fun R_ hR_ => ?_)
  refine WC.seq (fun K1 hK1 => ?_)
  refine WC.region ?_
  refine WL.box HS rfl rfl (by decide) rfl rfl rfl (fun b2 w3 hb2 HS => ?_)
  refine WL.alloc HS (v := .agg #[.slice none 0 0, .slice none 0 0]) (cs := #[.slice none 0 0, .slice none 0 0]) rfl rfl (by decide) rfl (by kernel_rfl) rfl (fun b4 w5 hb4 HS => ?_)
  refine WL.done ?_
  refine WQ.via (fun _ _ h_ => h_) hK1 ?_
  refine WC.seq (fun K6 hK6 => ?_)
  refine WC.region ?_
  refine WL.alloc HS (v := .agg #[.slice none 0 0, .slice none 0 0]) (cs := #[.slice none 0 0, .slice none 0 0]) rfl rfl (by decide) rfl (by kernel_rfl) rfl (fun b7 w8 hb7 HS => ?_)
  refine WL.done ?_
  refine WQ.via (fun _ _ h_ => h_) hK6 ?_
  refine WC.seq (fun K9 hK9 => ?_)
  refine WC.region ?_
  refine v_ (Run.fieldAddr rfl rfl Try.underlying29 rfl (by kernel_rfl) rfl) ?_
  refine v_ (Run.load rfl rfl Try.underlying23 rfl (box_cell (HS.mu 2 rfl) rfl)) ?_
  obtain ⟨t10, ha11, H⟩ := bind_some H
  refine c_ Try.func50 (laws_toIntSS.calls k A0_0 c0_0 x0.f0 t10 _ (HS.getO 0 rfl) hc0_0 ha11) ?_
  rintro _ w12 ⟨v13, rfl, h14, hb⟩
  obtain ⟨A15, c16, rfl, le17, hf18⟩ := res_S h14
  replace HS := HS.newNs hb (ps := [(fun W => (Kd.slice 3 (Kd.int .i64)).C W A15 t10.length t10)]) (foot_cons hf18 foot_nil)
  refine ⟨_, rfl, ?_⟩
  clear hb
  refine v_ (Run.fieldAddr rfl rfl Try.underlying37 rfl (by kernel_rfl) rfl) ?_
  refine WL.store HS 0 rfl rfl rfl rfl rfl rfl rfl (by kernel_rfl) (Nat.le_of_ble_eq_true rfl) (cs' := #[.slice A15 t10.length c16, .slice none 0 0]) (by kernel_rfl) (fun w19 HS => ?_)
  refine WL.done ?_
  refine WQ.via (fun _ _ h_ => h_) hK9 ?_
  refine WC.seq (fun K20 hK20 => ?_)
  refine WC.region ?_
  refine v_ (Run.fieldAddr rfl rfl Try.underlying29 rfl (by kernel_rfl) rfl) ?_
  refine v_ (Run.load rfl rfl Try.underlying23 rfl (box_cell (HS.mu 2 rfl) rfl)) ?_
  obtain ⟨t21, ha22, H⟩ := bind_some H
  refine c_ Try.func50 (laws_toIntSS.calls k A0_1 c0_1 x0.f1 t21 _ (HS.getO 1 rfl) hc0_1 ha22) ?_
  rintro _ w23 ⟨v24, rfl, h25, hb⟩
  obtain ⟨A26, c27, rfl, le28, hf29⟩ := res_S h25
  replace HS := HS.newNs hb (ps := [(fun W => (Kd.slice 3 (Kd.int .i64)).C W A26 t21.length t21)]) (foot_cons hf29 foot_nil)
  refine ⟨_, rfl, ?_⟩
  clear hb
  refine v_ (Run.fieldAddr rfl rfl Try.underlying37 rfl (by kernel_rfl) rfl) ?_
  refine WL.store HS 0 rfl rfl rfl rfl rfl rfl rfl (by kernel_rfl) (Nat.le_of_ble_eq_true rfl) (cs' := #[.slice A15 t10.length c16, .slice A26 t21.length c27]) (by kernel_rfl) (fun w30 HS => ?_)
  refine WL.done ?_
  refine WQ.via (fun _ _ h_ => h_) hK20 ?_
  refine WC.seq (fun K31 hK31 => ?_)
  refine WC.region ?_
  refine v_ (Run.loadS (cs := [.slice A15 t10.length c16, .slice A26 t21.length c27]) rfl rfl Try.underlying37 rfl (by kernel_rfl) (box_part (HS.mu 0 rfl) part_all)) ?_
  refine WL.storeS HS 1 (vs := [.slice A15 t10.length c16, .slice A26 t21.length c27]) rfl rfl rfl rfl rfl rfl (one_cons rfl (one_cons rfl one_nil)) (by kernel_rfl) (Nat.le_of_ble_eq_true rfl) (cs' := #[.slice A15 t10.length c16, .slice A26 t21.length c27]) (by kernel_rfl) (fun w32 HS => ?_)
  refine WL.done ?_
  refine WQ.via (fun _ _ h_ => h_) hK31 ?_
  refine WC.ret ?_
  obtain rfl := Option.some.inj H
  refine WQ.fin (e' := .ret) (fn := Try.f54) (fun _ _ h_ => h_) (WQ.ret1 rfl ⟨_, rfl, resv_box (HS.mu 1 rfl) Try.underlying37 rfl (by kernel_rfl)⟩ ?_)
  exact hR_ _ _ ⟨_, _, _, _, rfl, le17, (foot_fresh (HS.footN 1 rfl)), le28, (foot_fresh (HS.footN 0 rfl)), HS.b⟩
def laws_eqMerge.g (k : Nat) (x0 : S112) (x1 : S112) : Option Bool := (if x0.f0 = x1.f0 then (if x0.f1 = x1.f1 then (some true) else (some false)) else (some false))
set_option maxHeartbeats 4000000 in
set_option maxRecDepth 20000 in
theorem laws_eqMerge.runs (k : Nat) (x0 : S112) (x1 : S112) (r : Bool) (w : World) (H : laws_eqMerge.g k x0 x1 = some r) :
    Calls Try.prog 119 #[.agg #[.int .i64 x0.f0, .int .i64 x0.f1], .agg #[.int .i64 x1.f0, .int .i64 x1.f1]] w fun e w' => e = .returned (.bool r) ∧ Below w.heap.size w w' := by
  unfold laws_eqMerge.g at H
  have HS : St (fun _ => True) w w [] [] [] := St.start foot_nil
  refine calls_W Try.func119 rfl rfl (Nat.le_of_ble_eq_true rfl) (fun R_ hR_ => ?_)
  refine WC.seq (fun K1 hK1 => ?_)
  refine WC.region ?_
  refine WL.box HS rfl rfl (by decide) rfl rfl rfl (fun b2 w3 hb2 HS => ?_)
  refine WL.box HS rfl rfl (by decide) rfl rfl rfl (fun b4 w5 hb4 HS => ?_)
  refine as_ ?_
  refine WL.done ?_
  refine WQ.via (fun _ _ h_ => h_) hK1 ?_
  refine WC.seq (fun K6 hK6 => ?_)
  refine WC.seq (fun K7 hK7 => ?_)
  refine WC.region ?_
  refine v_ (Run.fieldAddr rfl rfl Try.underlying112 rfl (by kernel_rfl) rfl) ?_
  refine v_ (Run.load rfl rfl Try.underlying3 rfl (box_cell (HS.mu 1 rfl) rfl)) ?_
  refine v_ (Run.fieldAddr rfl rfl Try.underlying112 rfl (by kernel_rfl) rfl) ?_
  refine v_ (Run.load rfl rfl Try.underlying3 rfl (box_cell (HS.mu 0 rfl) rfl)) ?_
  refine v_ (Run.bin rfl rfl rfl bin_neq) ?_
  refine WL.done ?_
  refine WQ.via (fun _ _ h_ => h_) hK7 ?_
  by_cases c8 : x0.f0 = x1.f0
  · rw [if_pos c8] at H
    refine WC.no rfl (bne_eq_false_iff_eq.mpr c8) ?_
    refine WC.skip ?_
    refine WQ.via (fun _ _ h_ => h_) hK6 ?_
    refine WC.seq (fun K9 hK9 => ?_)
    refine WC.seq (fun K10 hK10 => ?_)
    refine WC.region ?_
    refine v_ (Run.fieldAddr rfl rfl Try.underlying112 rfl (by kernel_rfl) rfl) ?_
    refine v_ (Run.load rfl rfl Try.underlying3 rfl (box_cell (HS.mu 1 rfl) rfl)) ?_
    refine v_ (Run.fieldAddr rfl rfl Try.underlying112 rfl (by kernel_rfl) rfl) ?_
    refine v_ (Run.load rfl rfl Try.underlying3 rfl (box_cell (HS.mu 0 rfl) rfl)) ?_
    refine v_ (Run.bin rfl rfl rfl bin_neq) ?_
    refine WL.done ?_
    refine WQ.via (fun _ _ h_ => h_) hK10 ?_
    by_cases c11 : x0.f1 = x1.f1
    · rw [if_pos c11] at H
      refine WC.no rfl (bne_eq_false_iff_eq.mpr c11) ?_
      refine WC.skip ?_
      refine WQ.via (fun _ _ h_ => h_) hK9 ?_
      refine WC.seq (fun K12 hK12 => ?_)
      refine WC.region ?_
      refine as_ ?_
      refine WL.done ?_
      refine WQ.via (fun _ _ h_ => h_) hK12 ?_
      refine WC.ret ?_
      obtain rfl := Option.some.inj H
      refine WQ.fin (e' := .ret) (fn := Try.f119) (fun _ _ h_ => h_) (WQ.ret1 rfl rfl ?_)
      exact hR_ _ _ ⟨rfl, HS.b⟩
    · rw [if_neg c11] at H
      refine WC.yes rfl (bne_iff_ne.mpr c11) ?_
      refine WC.seq (fun K13 hK13 => ?_)
      refine WC.region ?_
      refine as_ ?_
      refine WL.done ?_
      refine WQ.via (fun _ _ h_ => h_) hK13 ?_
      refine WC.ret ?_
      obtain rfl := Option.some.inj H
      refine WQ.fin (e' := .ret) (fn := Try.f119) (fun _ _ h_ => h_) (WQ.ret1 rfl rfl ?_)
      exact hR_ _ _ ⟨rfl, HS.b⟩
  · rw [if_neg c8] at H
    refine WC.yes rfl (bne_iff_ne.mpr c8) ?_
    refine WC.seq (fun K14 hK14 => ?_)
    refine WC.region ?_
    refine as_ ?_
    refine WL.done ?_
    refine WQ.via (fun _ _ h_ => h_) hK14 ?_
    refine WC.ret ?_
    obtain rfl := Option.some.inj H
    refine WQ.fin (e' := .ret) (fn := Try.f119) (fun _ _ h_ => h_) (WQ.ret1 rfl rfl ?_)
    exact hR_ _ _ ⟨rfl, HS.b⟩
def laws_eqMergeS.b0 (l0 : List S112) (l1 : List S112) (rec_ : Int → Option (Bool ⊕ Int)) (k17 : Nat) (i11 : Int) : Option (Bool ⊕ Int) := (if i11 < (l0.length : Int) then (if 0 ≤ i11 ∧ i11 < (l0.length : Int) then (if 0 ≤ i11 ∧ i11 < (l1.length : Int) then ((laws_eqMerge.g k17 (l0.getD i11.toNat o112) (l1.getD i11.toNat o112)).bind fun t34 => (if t34 = true then (rec_ (wrap64 (i11 + 1))) else (some (Sum.inl false)))) else none) else none) else (some (Sum.inr i11)))
def laws_eqMergeS.l0 (l0 : List S112) (l1 : List S112) : Nat → Int → Option (Bool ⊕ Int)
  | 0, _ => none
  | k + 1, i11 => laws_eqMergeS.b0 l0 l1 (laws_eqMergeS.l0 l0 l1 k) k i11
def laws_eqMergeS.g (k : Nat) (l0 : List S112) (l1 : List S112) : Option Bool := (if (l0.length : Int) = (l1.length : Int) then ((laws_eqMergeS.l0 l0 l1 k 0).bind (fun o15 => match o15 with | .inl r_ => some r_ | .inr i11 => (some true))) else (some false))
set_option maxHeartbeats 4000000 in
set_option maxRecDepth 20000 in
theorem laws_eqMergeS.runs (k : Nat) (A0 : Option Addr) (c0 : Nat) (l0 : List S112) (A1 : Option Addr) (c1 : Nat) (l1 : List S112) (r : Bool) (w : World) (hr0 : k112.C w A0 l0.length l0) (hc0 : l0.length ≤ c0) (hr1 : k112.C w A1 l1.length l1) (hc1 : l1.length ≤ c1) (H : laws_eqMergeS.g k l0 l1 = some r) :
    Calls Try.prog 55 #[.slice A0 l0.length c0, .slice A1 l1.length c1] w fun e w' => e = .returned (.bool r) ∧ Below w.heap.size w w' := by
  unfold laws_eqMergeS.g at H
  have HS : St (fun _ => True) w w [] [(fun W => k112.C W A0 l0.length l0), (fun W => k112.C W A1 l1.length l1)] [] := St.start (foot_cons (foot_C h112 hr0) (foot_cons (foot_C h112 hr1) foot_nil))
  refine calls_W Try.func55 rfl rfl (Nat.le_of_ble_eq_true rfl) (fun R_ hR_ => ?_)
  refine WC.seq (fun K1 hK1 => ?_)
  refine WC.region ?_
  refine as_ ?_
  refine WL.done ?_
  refine WQ.via (fun _ _ h_ => h_) hK1 ?_
  refine WC.seq (fun K2 hK2 => ?_)
  refine WC.seq (fun K3 hK3 => ?_)
  refine WC.region ?_
  refine mv_ ?_
  refine v_ (Run.len (ts := #[]) rfl Try.underlying34 rfl) ?_
  refine mv_ ?_
  refine v_ (Run.len (ts := #[]) rfl Try.underlying34 rfl) ?_
  refine v_ (Run.bin rfl rfl rfl bin_neq) ?_
  refine WL.done ?_
  refine WQ.via (fun _ _ h_ => h_) hK3 ?_
  by_cases c4 : (l0.length : Int) = (l1.length : Int)
  · rw [if_pos c4] at H
    refine WC.no rfl (bne_eq_false_iff_eq.mpr c4) ?_
    refine WC.skip ?_
    refine WQ.via (fun _ _ h_ => h_) hK2 ?_
    refine WC.seq (fun K5 hK5 => ?_)
    refine WC.seq (fun K6 hK6 => ?_)
    refine WC.region ?_
    refine as_ ?_
    refine WL.done ?_
    refine WQ.via (fun _ _ h_ => h_) hK6 ?_
    refine WC.block ?_
    obtain ⟨G7, hG8, o9, H, Ho10⟩ := open_G H
    have X12 : ∀ E_ W_, (∃ (i11 : Int), E_ = [(0, .slice A0 l0.length c0), (1, .slice A1 l1.length c1), (5, .int .i64 i11)] ∧ G7 (Sum.inr i11) = some r ∧ St (fun _ => True) w W_ [] [(fun W => k112.C W A0 l0.length l0), (fun W => k112.C W A1 l1.length l1)] []) → ∀ a, Fits a 27 E_ → K5 a W_ := by
      rintro E_ w13 ⟨i11, rfl, H, HS⟩
      rw [hG8] at H
      (try dsimp only at H)
      refine hK5 _ _ ?_
      refine WC.seq (fun K14 hK14 => ?_)
      refine WC.region ?_
      refine as_ ?_
      refine WL.done ?_
      refine WQ.via (fun _ _ h_ => h_) hK14 ?_
      refine WC.ret ?_
      obtain rfl := Option.some.inj H
      refine WQ.fin (e' := .ret) (fn := Try.f55) (fun _ _ h_ => h_) (WQ.ret1 rfl rfl ?_)
      exact hR_ _ _ ⟨rfl, HS.b⟩
    refine WC.loop (fun k_ E_ W_ => ∃ (i11 : Int), E_ = [(0, .slice A0 l0.length c0), (1, .slice A1 l1.length c1), (5, .int .i64 i11)] ∧ (∃ o_, laws_eqMergeS.l0 l0 l1 k_ i11 = some o_ ∧ G7 o_ = some r) ∧ St (fun _ => True) w W_ [] [(fun W => k112.C W A0 l0.length l0), (fun W => k112.C W A1 l1.length l1)] []) k ⟨0, rfl, ⟨_, H, Ho10⟩, (St.pick HS (fun W_ h_ => ⟨AllF.get 0 rfl h_, AllF.get 1 rfl h_, trivial⟩) (fun W_ h_ => trivial))⟩ ⟨rfl, rfl, rfl, trivial⟩ ?_
    rintro k_ E_ w16 ⟨i11, rfl, ⟨o9, H, Ho10⟩, HS⟩
    rcases k_ with _ | k17
    · exact (Option.some_ne_none _ (show none = some _ from H).symm).elim
    replace H : laws_eqMergeS.b0 l0 l1 (laws_eqMergeS.l0 l0 l1 k17) k17 i11 = some o9 := H
    unfold laws_eqMergeS.b0 at H
    refine WC.seq (fun K18 hK18 => ?_)
    refine WC.seq (fun K19 hK19 => ?_)
    refine WC.region ?_
    refine mv_ ?_
    refine mv_ ?_
    refine v_ (Run.len (ts := #[]) rfl Try.underlying34 rfl) ?_
    refine v_ (Run.bin rfl rfl rfl bin_lss) ?_
    refine WL.done ?_
    refine WQ.via (fun _ _ h_ => h_) hK19 ?_
    by_cases c20 : i11 < (l0.length : Int)
    · rw [if_pos c20] at H
      refine WC.yes rfl (decide_eq_true c20) ?_
      refine WC.skip ?_
      refine WQ.via (fun _ _ h_ => h_) hK18 ?_
      refine WC.seq (fun K21 hK21 => ?_)
      refine WC.block ?_
      refine WC.seq (fun K22 hK22 => ?_)
      refine WC.drawS HS [] rfl rfl (fun w23 HS => ?_)
      have HB := Below.refl w23.heap.size w23
      have HSW := HS
      refine dp_ 0 (fun _ => Run.move rfl rfl) ?_
      refine dp_ 1 (fun _ => Run.move rfl rfl) ?_
      obtain ⟨⟨q24, q25⟩, H⟩ := if_some H
      obtain ⟨ad26, rfl⟩ := C_open (HS.getO 0 rfl) (by omega)
      refine dp_ 2 (fun _ => Run.indexAddr rfl rfl rfl Try.underlying34 (sz := 2) (by kernel_rfl) q24 q25) ?_
      refine dp_ 4 (fun _ => Run.move rfl rfl) ?_
      refine dp_ 5 (fun _ => Run.move rfl rfl) ?_
      obtain ⟨⟨q27, q28⟩, H⟩ := if_some H
      obtain ⟨ad29, rfl⟩ := C_open (HS.getO 1 rfl) (by omega)
      refine dp_ 6 (fun _ => Run.indexAddr rfl rfl rfl Try.underlying34 (sz := 2) (by kernel_rfl) q27 q28) ?_
      obtain ⟨e30, el31, HS⟩ := HS.elO 0 rfl (by decide) o112 i11 q24 q25
      refine dt_ 3 (Below.refl _ _) (fun w_ hw_ => Run.loadS (cs := [.int .i64 ((l0.getD i11.toNat o112).f0), .int .i64 ((l0.getD i11.toNat o112).f1)]) rfl rfl Try.underlying112 rfl (by kernel_rfl) (cells_part ((HS.below hw_).getO 0 rfl).2 (part_cons (at112_0 (AtK.whole ((HS.below hw_).getO 0 rfl).1)).int (part_cons (at112_1 (AtK.whole ((HS.below hw_).getO 0 rfl).1)).int part_nil)))) ?_
      obtain ⟨e32, el33, HS⟩ := HS.elO 2 rfl (by decide) o112 i11 q27 q28
      refine dt_ 7 (Below.refl _ _) (fun w_ hw_ => Run.loadS (cs := [.int .i64 ((l1.getD i11.toNat o112).f0), .int .i64 ((l1.getD i11.toNat o112).f1)]) rfl rfl Try.underlying112 rfl (by kernel_rfl) (cells_part ((HS.below hw_).getO 0 rfl).2 (part_cons (at112_0 (AtK.whole ((HS.below hw_).getO 0 rfl).1)).int (part_cons (at112_1 (AtK.whole ((HS.below hw_).getO 0 rfl).1)).int part_nil)))) ?_
      obtain ⟨t34, ha35, H⟩ := bind_some H
      refine dc_ 8 (w_none rfl) Try.func119 (laws_eqMerge.runs k17 (l0.getD i11.toNat o112) (l1.getD i11.toNat o112) t34 _  ha35) ?_
      rintro _ w36 ⟨rfl, hb⟩
      replace HB := HB.trans (hb.mono HB.size)
      replace HS := HS.below hb
      refine ⟨HB, _, rfl, ?_⟩
      clear hb
      refine dp_ 9 (fun _ => Run.not rfl rfl) ?_
      refine WD.done (by kernel_rfl) ?_
      clear HB HSW
      refine WQ.via (fun _ _ h_ => h_) hK22 ?_
      by_cases c37 : t34 = true
      · rw [if_pos c37] at H
        refine WC.no rfl (congrArg (fun b_ => !b_) c37) ?_
        refine WC.skip ?_
        refine WQ.via (fun _ _ h_ => h_) hK21 ?_
        refine WC.region ?_
        refine mv_ ?_
        refine v_ (Run.bin rfl rfl rfl bin_add64) ?_
        refine as_ ?_
        refine WL.done ?_
        exact WQ.round k17 (fun _ _ h_ => h_) (Nat.lt_succ_self _) ⟨(wrap64 (i11 + 1)), rfl, ⟨_, H, Ho10⟩, (St.pick HS (fun W_ h_ => ⟨AllF.get 2 rfl h_, AllF.get 3 rfl h_, trivial⟩) (fun W_ h_ => trivial))⟩ ⟨rfl, rfl, rfl, trivial⟩
      · rw [if_neg c37] at H
        refine WC.yes rfl (congrArg (fun b_ => !b_) (Bool.eq_false_iff.mpr c37)) ?_
        refine WC.seq (fun K38 hK38 => ?_)
        refine WC.region ?_
        refine as_ ?_
        refine WL.done ?_
        refine WQ.via (fun _ _ h_ => h_) hK38 ?_
        refine WC.ret ?_
        obtain rfl := Option.some.inj H
        rw [hG8] at Ho10
        replace H : some _ = some _ := Ho10
        obtain rfl := Option.some.inj H
        refine WQ.fin (e' := .ret) (fn := Try.f55) (fun _ _ h_ => h_) (WQ.ret1 rfl rfl ?_)
        exact hR_ _ _ ⟨rfl, HS.b⟩
    · rw [if_neg c20] at H
      refine WC.no rfl (decide_eq_false c20) ?_
      refine WC.exit ?_
      obtain rfl := Option.some.inj H
      exact WQ.via2 (fun _ _ h_ => h_) X12 ⟨i11, rfl, Ho10, (St.pick HS (fun W_ h_ => ⟨AllF.get 0 rfl h_, AllF.get 1 rfl h_, trivial⟩) (fun W_ h_ => trivial))⟩ ⟨rfl, rfl, rfl, trivial⟩
  · rw [if_neg c4] at H
    refine WC.yes rfl (bne_iff_ne.mpr c4) ?_
    refine WC.seq (fun K39 hK39 => ?_)
    refine WC.region ?_
    refine as_ ?_
    refine WL.done ?_
    refine WQ.via (fun _ _ h_ => h_) hK39 ?_
    refine WC.ret ?_
    obtain rfl := Option.some.inj H
    refine WQ.fin (e' := .ret) (fn := Try.f55) (fun _ _ h_ => h_) (WQ.ret1 rfl rfl ?_)
    exact hR_ _ _ ⟨rfl, HS.b⟩
def laws_eqMatrix.g (k : Nat) (x0 : S36) (x1 : S36) : Option Bool := (if x0.f0 = x1.f0 then ((laws_eqIntSS.f k x0.f1 x1.f1).bind fun t11 => (if t11 = true then ((laws_eqIntSS.f k x0.f2 x1.f2).bind fun t17 => (if t17 = true then (if x0.f3 = x1.f3 then (if x0.f4 = x1.f4 then (some true) else (some false)) else (some false)) else (some false))) else (some false))) else (some false))
set_option maxHeartbeats 4000000 in
set_option maxRecDepth 20000 in
theorem laws_eqMatrix.runs (k : Nat) (x0 : S36) (A0_1 : Option Addr) (c0_1 : Nat) (A0_2 : Option Addr) (c0_2 : Nat) (x1 : S36) (A1_1 : Option Addr) (c1_1 : Nat) (A1_2 : Option Addr) (c1_2 : Nat) (r : Bool) (w : World) (hr0_1 : (Kd.slice 3 (Kd.int .i64)).C w A0_1 x0.f1.length x0.f1) (hc0_1 : x0.f1.length ≤ c0_1) (hr0_2 : (Kd.slice 3 (Kd.int .i64)).C w A0_2 x0.f2.length x0.f2) (hc0_2 : x0.f2.length ≤ c0_2) (hr1_1 : (Kd.slice 3 (Kd.int .i64)).C w A1_1 x1.f1.length x1.f1) (hc1_1 : x1.f1.length ≤ c1_1) (hr1_2 : (Kd.slice 3 (Kd.int .i64)).C w A1_2 x1.f2.length x1.f2) (hc1_2 : x1.f2.length ≤ c1_2) (H : laws_eqMatrix.g k x0 x1 = some r) :
    Calls Try.prog 59 #[.agg #[.int .i64 x0.f0, .slice A0_1 x0.f1.length c0_1, .slice A0_2 x0.f2.length c0_2, .int .i64 x0.f3, .int .i64 x0.f4], .agg #[.int .i64 x1.f0, .slice A1_1 x1.f1.length c1_1, .slice A1_2 x1.f2.length c1_2, .int .i64 x1.f3, .int .i64 x1.f4]] w fun e w' => e = .returned (.bool r) ∧ Below w.heap.size w w' := by
  unfold laws_eqMatrix.g at H
  have HS : St (fun _ => True) w w [] [(fun W => (Kd.slice 3 (Kd.int .i64)).C W A0_1 x0.f1.length x0.f1), (fun W => (Kd.slice 3 (Kd.int .i64)).C W A0_2 x0.f2.length x0.f2), (fun W => (Kd.slice 3 (Kd.int .i64)).C W A1_1 x1.f1.length x1.f1), (fun W => (Kd.slice 3 (Kd.int .i64)).C W A1_2 x1.f2.length x1.f2)] [] := St.start (foot_cons (foot_C (Kd.heap_slice _ (Kd.heap_int _)) hr0_1) (foot_cons (foot_C (Kd.heap_slice _ (Kd.heap_int _)) hr0_2) (foot_cons (foot_C (Kd.heap_slice _ (Kd.heap_int _)) hr1_1) (foot_cons (foot_C (Kd.heap_slice _ (Kd.heap_int _)) hr1_2) foot_nil))))
  refine calls_W Try.func59 rfl rfl (Nat.le_of_ble_eq_true rfl) (fun R_ hR_ => ?_)
  refine WC.seq (fun K1 hK1 => ?_)
  refine WC.region ?_
  refine WL.box HS rfl rfl (by decide) rfl rfl rfl (fun b2 w3 hb2 HS => ?_)
  refine WL.box HS rfl rfl (by decide) rfl rfl rfl (fun b4 w5 hb4 HS => ?_)
  refine as_ ?_
  refine WL.done ?_
  refine WQ.via (fun _ _ h_ => h_) hK1 ?_
  refine WC.seq (fun K6 hK6 => ?_)
  refine WC.seq (fun K7 hK7 => ?_)
  refine WC.region ?_
  refine v_ (Run.fieldAddr rfl rfl Try.underlying36 rfl (by kernel_rfl) rfl) ?_
  refine v_ (Run.load rfl rfl Try.underlying3 rfl (box_cell (HS.mu 1 rfl) rfl)) ?_
  refine v_ (Run.fieldAddr rfl rfl Try.underlying36 rfl (by kernel_rfl) rfl) ?_
  refine v_ (Run.load rfl rfl Try.underlying3 rfl (box_cell (HS.mu 0 rfl) rfl)) ?_
  refine v_ (Run.bin rfl rfl rfl bin_neq) ?_
  refine WL.done ?_
  refine WQ.via (fun _ _ h_ => h_) hK7 ?_
  by_cases c8 : x0.f0 = x1.f0
  · rw [if_pos c8] at H
    refine WC.no rfl (bne_eq_false_iff_eq.mpr c8) ?_
    refine WC.skip ?_
    refine WQ.via (fun _ _ h_ => h_) hK6 ?_
    refine WC.seq (fun K9 hK9 => ?_)
    refine WC.seq (fun K10 hK10 => ?_)
    refine WC.region ?_
    refine v_ (Run.fieldAddr rfl rfl Try.underlying36 rfl (by kernel_rfl) rfl) ?_
    refine v_ (Run.load rfl rfl Try.underlying23 rfl (box_cell (HS.mu 1 rfl) rfl)) ?_
    refine v_ (Run.fieldAddr rfl rfl Try.underlying36 rfl (by kernel_rfl) rfl) ?_
    refine v_ (Run.load rfl rfl Try.underlying23 rfl (box_cell (HS.mu 0 rfl) rfl)) ?_
    obtain ⟨t11, ha12, H⟩ := bind_some H
    refine c_ Try.func56 (laws_eqIntSS.calls k A0_1 c0_1 x0.f1 A1_1 c1_1 x1.f1 t11 _ (HS.getO 0 rfl) hc0_1 (HS.getO 2 rfl) hc1_1 ha12) ?_
    rintro _ w13 ⟨rfl, hb⟩
    have hb := hb.below
    replace HS := HS.below hb
    refine ⟨_, rfl, ?_⟩
    clear hb
    refine v_ (Run.not rfl rfl) ?_
    refine WL.done ?_
    refine WQ.via (fun _ _ h_ => h_) hK10 ?_
    by_cases c14 : t11 = true
    · rw [if_pos c14] at H
      refine WC.no rfl (congrArg (fun b_ => !b_) c14) ?_
      refine WC.skip ?_
      refine WQ.via (fun _ _ h_ => h_) hK9 ?_
      refine WC.seq (fun K15 hK15 => ?_)
      refine WC.seq (fun K16 hK16 => ?_)
      refine WC.region ?_
      refine v_ (Run.fieldAddr rfl rfl Try.underlying36 rfl (by kernel_rfl) rfl) ?_
      refine v_ (Run.load rfl rfl Try.underlying23 rfl (box_cell (HS.mu 1 rfl) rfl)) ?_
      refine v_ (Run.fieldAddr rfl rfl Try.underlying36 rfl (by kernel_rfl) rfl) ?_
      refine v_ (Run.load rfl rfl Try.underlying23 rfl (box_cell (HS.mu 0 rfl) rfl)) ?_
      obtain ⟨t17, ha18, H⟩ := bind_some H
      refine c_ Try.func56 (laws_eqIntSS.calls k A0_2 c0_2 x0.f2 A1_2 c1_2 x1.f2 t17 _ (HS.getO 1 rfl) hc0_2 (HS.getO 3 rfl) hc1_2 ha18) ?_
      rintro _ w19 ⟨rfl, hb⟩
      have hb := hb.below
      replace HS := HS.below hb
      refine ⟨_, rfl, ?_⟩
      clear hb
      refine v_ (Run.not rfl rfl) ?_
      refine WL.done ?_
      refine WQ.via (fun _ _ h_ => h_) hK16 ?_
      by_cases c20 : t17 = true
      · rw [if_pos c20] at H
        refine WC.no rfl (congrArg (fun b_ => !b_) c20) ?_
        refine WC.skip ?_
        refine WQ.via (fun _ _ h_ => h_) hK15 ?_
        refine WC.seq (fun K21 hK21 => ?_)
        refine WC.seq (fun K22 hK22 => ?_)
        refine WC.region ?_
        refine v_ (Run.fieldAddr rfl rfl Try.underlying36 rfl (by kernel_rfl) rfl) ?_
        refine v_ (Run.load rfl rfl Try.underlying3 rfl (box_cell (HS.mu 1 rfl) rfl)) ?_
        refine v_ (Run.fieldAddr rfl rfl Try.underlying36 rfl (by kernel_rfl) rfl) ?_
        refine v_ (Run.load rfl rfl Try.underlying3 rfl (box_cell (HS.mu 0 rfl) rfl)) ?_
        refine v_ (Run.bin rfl rfl rfl bin_neq) ?_
        refine WL.done ?_
        refine WQ.via (fun _ _ h_ => h_) hK22 ?_
        by_cases c23 : x0.f3 = x1.f3
        · rw [if_pos c23] at H
          refine WC.no rfl (bne_eq_false_iff_eq.mpr c23) ?_
          refine WC.skip ?_
          refine WQ.via (fun _ _ h_ => h_) hK21 ?_
          refine WC.seq (fun K24 hK24 => ?_)
          refine WC.seq (fun K25 hK25 => ?_)
          refine WC.region ?_
          refine v_ (Run.fieldAddr rfl rfl Try.underlying36 rfl (by kernel_rfl) rfl) ?_
          refine v_ (Run.load rfl rfl Try.underlying3 rfl (box_cell (HS.mu 1 rfl) rfl)) ?_
          refine v_ (Run.fieldAddr rfl rfl Try.underlying36 rfl (by kernel_rfl) rfl) ?_
          refine v_ (Run.load rfl rfl Try.underlying3 rfl (box_cell (HS.mu 0 rfl) rfl)) ?_
          refine v_ (Run.bin rfl rfl rfl bin_neq) ?_
          refine WL.done ?_
          refine WQ.via (fun _ _ h_ => h_) hK25 ?_
          by_cases c26 : x0.f4 = x1.f4
          · rw [if_pos c26] at H
            refine WC.no rfl (bne_eq_false_iff_eq.mpr c26) ?_
            refine WC.skip ?_
            refine WQ.via (fun _ _ h_ => h_) hK24 ?_
            refine WC.seq (fun K27 hK27 => ?_)
            refine WC.region ?_
            refine as_ ?_
            refine WL.done ?_
            refine WQ.via (fun _ _ h_ => h_) hK27 ?_
            refine WC.ret ?_
            obtain rfl := Option.some.inj H
            refine WQ.fin (e' := .ret) (fn := Try.f59) (fun _ _ h_ => h_) (WQ.ret1 rfl rfl ?_)
            exact hR_ _ _ ⟨rfl, HS.b⟩
          · rw [if_neg c26] at H
            refine WC.yes rfl (bne_iff_ne.mpr c26) ?_
            refine WC.seq (fun K28 hK28 => ?_)
            refine WC.region ?_
            refine as_ ?_
            refine WL.done ?_
            refine WQ.via (fun _ _ h_ => h_) hK28 ?_
            refine WC.ret ?_
            obtain rfl := Option.some.inj H
            refine WQ.fin (e' := .ret) (fn := Try.f59) (fun _ _ h_ => h_) (WQ.ret1 rfl rfl ?_)
            exact hR_ _ _ ⟨rfl, HS.b⟩
        · rw [if_neg c23] at H
          refine WC.yes rfl (bne_iff_ne.mpr c23) ?_
          refine WC.seq (fun K29 hK29 => ?_)
          refine WC.region ?_
          refine as_ ?_
          refine WL.done ?_
          refine WQ.via (fun _ _ h_ => h_) hK29 ?_
          refine WC.ret ?_
          obtain rfl := Option.some.inj H
          refine WQ.fin (e' := .ret) (fn := Try.f59) (fun _ _ h_ => h_) (WQ.ret1 rfl rfl ?_)
          exact hR_ _ _ ⟨rfl, HS.b⟩
      · rw [if_neg c20] at H
        refine WC.yes rfl (congrArg (fun b_ => !b_) (Bool.eq_false_iff.mpr c20)) ?_
        refine WC.seq (fun K30 hK30 => ?_)
        refine WC.region ?_
        refine as_ ?_
        refine WL.done ?_
        refine WQ.via (fun _ _ h_ => h_) hK30 ?_
        refine WC.ret ?_
        obtain rfl := Option.some.inj H
        refine WQ.fin (e' := .ret) (fn := Try.f59) (fun _ _ h_ => h_) (WQ.ret1 rfl rfl ?_)
        exact hR_ _ _ ⟨rfl, HS.b⟩
    · rw [if_neg c14] at H
      refine WC.yes rfl (congrArg (fun b_ => !b_) (Bool.eq_false_iff.mpr c14)) ?_
      refine WC.seq (fun K31 hK31 => ?_)
      refine WC.region ?_
      refine as_ ?_
      refine WL.done ?_
      refine WQ.via (fun _ _ h_ => h_) hK31 ?_
      refine WC.ret ?_
      obtain rfl := Option.some.inj H
      refine WQ.fin (e' := .ret) (fn := Try.f59) (fun _ _ h_ => h_) (WQ.ret1 rfl rfl ?_)
      exact hR_ _ _ ⟨rfl, HS.b⟩
  · rw [if_neg c8] at H
    refine WC.yes rfl (bne_iff_ne.mpr c8) ?_
    refine WC.seq (fun K32 hK32 => ?_)
    refine WC.region ?_
    refine as_ ?_
    refine WL.done ?_
    refine WQ.via (fun _ _ h_ => h_) hK32 ?_
    refine WC.ret ?_
    obtain rfl := Option.some.inj H
    refine WQ.fin (e' := .ret) (fn := Try.f59) (fun _ _ h_ => h_) (WQ.ret1 rfl rfl ?_)
    exact hR_ _ _ ⟨rfl, HS.b⟩
def laws_eqTurns.g (k : Nat) (x0 : S37) (x1 : S37) : Option Bool := ((laws_eqIntSS.f k x0.f0 x1.f0).bind fun t8 => (if t8 = true then ((laws_eqIntSS.f k x0.f1 x1.f1).bind fun t14 => (if t14 = true then (some true) else (some false))) else (some false)))
set_option maxHeartbeats 4000000 in
set_option maxRecDepth 20000 in
theorem laws_eqTurns.runs (k : Nat) (x0 : S37) (A0_0 : Option Addr) (c0_0 : Nat) (A0_1 : Option Addr) (c0_1 : Nat) (x1 : S37) (A1_0 : Option Addr) (c1_0 : Nat) (A1_1 : Option Addr) (c1_1 : Nat) (r : Bool) (w : World) (hr0_0 : (Kd.slice 3 (Kd.int .i64)).C w A0_0 x0.f0.length x0.f0) (hc0_0 : x0.f0.length ≤ c0_0) (hr0_1 : (Kd.slice 3 (Kd.int .i64)).C w A0_1 x0.f1.length x0.f1) (hc0_1 : x0.f1.length ≤ c0_1) (hr1_0 : (Kd.slice 3 (Kd.int .i64)).C w A1_0 x1.f0.length x1.f0) (hc1_0 : x1.f0.length ≤ c1_0) (hr1_1 : (Kd.slice 3 (Kd.int .i64)).C w A1_1 x1.f1.length x1.f1) (hc1_1 : x1.f1.length ≤ c1_1) (H : laws_eqTurns.g k x0 x1 = some r) :
    Calls Try.prog 60 #[.agg #[.slice A0_0 x0.f0.length c0_0, .slice A0_1 x0.f1.length c0_1], .agg #[.slice A1_0 x1.f0.length c1_0, .slice A1_1 x1.f1.length c1_1]] w fun e w' => e = .returned (.bool r) ∧ Below w.heap.size w w' := by
  unfold laws_eqTurns.g at H
  have HS : St (fun _ => True) w w [] [(fun W => (Kd.slice 3 (Kd.int .i64)).C W A0_0 x0.f0.length x0.f0), (fun W => (Kd.slice 3 (Kd.int .i64)).C W A0_1 x0.f1.length x0.f1), (fun W => (Kd.slice 3 (Kd.int .i64)).C W A1_0 x1.f0.length x1.f0), (fun W => (Kd.slice 3 (Kd.int .i64)).C W A1_1 x1.f1.length x1.f1)] [] := St.start (foot_cons (foot_C (Kd.heap_slice _ (Kd.heap_int _)) hr0_0) (foot_cons (foot_C (Kd.heap_slice _ (Kd.heap_int _)) hr0_1) (foot_cons (foot_C (Kd.heap_slice _ (Kd.heap_int _)) hr1_0) (foot_cons (foot_C (Kd.heap_slice _ (Kd.heap_int _)) hr1_1) foot_nil))))
  refine calls_W Try.func60 rfl rfl (Nat.le_of_ble_eq_true rfl) (fun R_ hR_ => ?_)
  refine WC.seq (fun K1 hK1 => ?_)
  refine WC.region ?_
  refine WL.box HS rfl rfl (by decide) rfl rfl rfl (fun b2 w3 hb2 HS => ?_)
  refine WL.box HS rfl rfl (by decide) rfl rfl rfl (fun b4 w5 hb4 HS => ?_)
  refine as_ ?_
  refine WL.done ?_
  refine WQ.via (fun _ _ h_ => h_) hK1 ?_
  refine WC.seq (fun K6 hK6 => ?_)
  refine WC.seq (fun K7 hK7 => ?_)
  refine WC.region ?_
  refine v_ (Run.fieldAddr rfl rfl Try.underlying37 rfl (by kernel_rfl) rfl) ?_
  refine v_ (Run.load rfl rfl Try.underlying23 rfl (box_cell (HS.mu 1 rfl) rfl)) ?_
  refine v_ (Run.fieldAddr rfl rfl Try.underlying37 rfl (by kernel_rfl) rfl) ?_
  refine v_ (Run.load rfl rfl Try.underlying23 rfl (box_cell (HS.mu 0 rfl) rfl)) ?_
  obtain ⟨t8, ha9, H⟩ := bind_some H
  refine c_ Try.func56 (laws_eqIntSS.calls k A0_0 c0_0 x0.f0 A1_0 c1_0 x1.f0 t8 _ (HS.getO 0 rfl) hc0_0 (HS.getO 2 rfl) hc1_0 ha9) ?_
  rintro _ w10 ⟨rfl, hb⟩
  have hb := hb.below
  replace HS := HS.below hb
  refine ⟨_, rfl, ?_⟩
  clear hb
  refine v_ (Run.not rfl rfl) ?_
  refine WL.done ?_
  refine WQ.via (fun _ _ h_ => h_) hK7 ?_
  by_cases c11 : t8 = true
  · rw [if_pos c11] at H
    refine WC.no rfl (congrArg (fun b_ => !b_) c11) ?_
    refine WC.skip ?_
    refine WQ.via (fun _ _ h_ => h_) hK6 ?_
    refine WC.seq (fun K12 hK12 => ?_)
    refine WC.seq (fun K13 hK13 => ?_)
    refine WC.region ?_
    refine v_ (Run.fieldAddr rfl rfl Try.underlying37 rfl (by kernel_rfl) rfl) ?_
    refine v_ (Run.load rfl rfl Try.underlying23 rfl (box_cell (HS.mu 1 rfl) rfl)) ?_
    refine v_ (Run.fieldAddr rfl rfl Try.underlying37 rfl (by kernel_rfl) rfl) ?_
    refine v_ (Run.load rfl rfl Try.underlying23 rfl (box_cell (HS.mu 0 rfl) rfl)) ?_
    obtain ⟨t14, ha15, H⟩ := bind_some H
    refine c_ Try.func56 (laws_eqIntSS.calls k A0_1 c0_1 x0.f1 A1_1 c1_1 x1.f1 t14 _ (HS.getO 1 rfl) hc0_1 (HS.getO 3 rfl) hc1_1 ha15) ?_
    rintro _ w16 ⟨rfl, hb⟩
    have hb := hb.below
    replace HS := HS.below hb
    refine ⟨_, rfl, ?_⟩
    clear hb
    refine v_ (Run.not rfl rfl) ?_
    refine WL.done ?_
    refine WQ.via (fun _ _ h_ => h_) hK13 ?_
    by_cases c17 : t14 = true
    · rw [if_pos c17] at H
      refine WC.no rfl (congrArg (fun b_ => !b_) c17) ?_
      refine WC.skip ?_
      refine WQ.via (fun _ _ h_ => h_) hK12 ?_
      refine WC.seq (fun K18 hK18 => ?_)
      refine WC.region ?_
      refine as_ ?_
      refine WL.done ?_
      refine WQ.via (fun _ _ h_ => h_) hK18 ?_
      refine WC.ret ?_
      obtain rfl := Option.some.inj H
      refine WQ.fin (e' := .ret) (fn := Try.f60) (fun _ _ h_ => h_) (WQ.ret1 rfl rfl ?_)
      exact hR_ _ _ ⟨rfl, HS.b⟩
    · rw [if_neg c17] at H
      refine WC.yes rfl (congrArg (fun b_ => !b_) (Bool.eq_false_iff.mpr c17)) ?_
      refine WC.seq (fun K19 hK19 => ?_)
      refine WC.region ?_
      refine as_ ?_
      refine WL.done ?_
      refine WQ.via (fun _ _ h_ => h_) hK19 ?_
      refine WC.ret ?_
      obtain rfl := Option.some.inj H
      refine WQ.fin (e' := .ret) (fn := Try.f60) (fun _ _ h_ => h_) (WQ.ret1 rfl rfl ?_)
      exact hR_ _ _ ⟨rfl, HS.b⟩
  · rw [if_neg c11] at H
    refine WC.yes rfl (congrArg (fun b_ => !b_) (Bool.eq_false_iff.mpr c11)) ?_
    refine WC.seq (fun K20 hK20 => ?_)
    refine WC.region ?_
    refine as_ ?_
    refine WL.done ?_
    refine WQ.via (fun _ _ h_ => h_) hK20 ?_
    refine WC.ret ?_
    obtain rfl := Option.some.inj H
    refine WQ.fin (e' := .ret) (fn := Try.f60) (fun _ _ h_ => h_) (WQ.ret1 rfl rfl ?_)
    exact hR_ _ _ ⟨rfl, HS.b⟩
def spec_l10Matrix.g (k : Nat) (x0 : S36) (a1 : Int) (a2 : Int) : Option Bool := ((spec_MatrixOk.f k x0.f0 x0.f1 x0.f2 x0.f3 x0.f4).bind fun t5 => (if t5 = true then (if x0.f0 = a1 then (if (x0.f1.length : Int) = a2 then ((spec_l10Worst.f k x0.f0 x0.f1 x0.f2 x0.f3 x0.f4).bind fun t11 => (some (decide (t11 ≤ 600000)))) else (some false)) else (some false)) else (some false)))
set_option maxHeartbeats 4000000 in
set_option maxRecDepth 20000 in
theorem spec_l10Matrix.runs (k : Nat) (x0 : S36) (A0_1 : Option Addr) (c0_1 : Nat) (A0_2 : Option Addr) (c0_2 : Nat) (a1 : Int) (a2 : Int) (r : Bool) (w : World) (hr0_1 : (Kd.slice 3 (Kd.int .i64)).C w A0_1 x0.f1.length x0.f1) (hc0_1 : x0.f1.length ≤ c0_1) (hr0_2 : (Kd.slice 3 (Kd.int .i64)).C w A0_2 x0.f2.length x0.f2) (hc0_2 : x0.f2.length ≤ c0_2) (H : spec_l10Matrix.g k x0 a1 a2 = some r) :
    Calls Try.prog 63 #[.agg #[.int .i64 x0.f0, .slice A0_1 x0.f1.length c0_1, .slice A0_2 x0.f2.length c0_2, .int .i64 x0.f3, .int .i64 x0.f4], .int .i64 a1, .int .i64 a2] w fun e w' => e = .returned (.bool r) ∧ Below w.heap.size w w' := by
  unfold spec_l10Matrix.g at H
  have HS : St (fun _ => True) w w [] [(fun W => (Kd.slice 3 (Kd.int .i64)).C W A0_1 x0.f1.length x0.f1), (fun W => (Kd.slice 3 (Kd.int .i64)).C W A0_2 x0.f2.length x0.f2)] [] := St.start (foot_cons (foot_C (Kd.heap_slice _ (Kd.heap_int _)) hr0_1) (foot_cons (foot_C (Kd.heap_slice _ (Kd.heap_int _)) hr0_2) foot_nil))
  refine calls_W Try.func63 rfl rfl (Nat.le_of_ble_eq_true rfl) (fun R_ hR_ => ?_)
  refine WC.seq (fun K1 hK1 => ?_)
  refine WC.region ?_
  refine WL.box HS rfl rfl (by decide) rfl rfl rfl (fun b2 w3 hb2 HS => ?_)
  refine as_ ?_
  refine WL.done ?_
  refine WQ.via (fun _ _ h_ => h_) hK1 ?_
  refine WC.seq (fun K4 hK4 => ?_)
  refine WC.region ?_
  refine v_ (Run.loadS (cs := [.int .i64 x0.f0, .slice A0_1 x0.f1.length c0_1, .slice A0_2 x0.f2.length c0_2, .int .i64 x0.f3, .int .i64 x0.f4]) rfl rfl Try.underlying36 rfl (by kernel_rfl) (box_part (HS.mu 0 rfl) part_all)) ?_
  obtain ⟨t5, ha6, H⟩ := bind_some H
  refine c_ Try.func120 (spec_MatrixOk.calls k x0.f0 A0_1 c0_1 x0.f1 A0_2 c0_2 x0.f2 x0.f3 x0.f4 t5 _ (HS.getO 0 rfl) hc0_1 (HS.getO 1 rfl) hc0_2 ha6) ?_
  rintro _ w7 ⟨rfl, hb⟩
  replace HS := HS.below hb
  refine ⟨_, rfl, ?_⟩
  clear hb
  refine mv_ ?_
  by_cases c8 : t5 = true
  · rw [if_pos c8] at H
    refine on_ c8 ?_
    refine v_ (Run.fieldAddr rfl rfl Try.underlying36 rfl (by kernel_rfl) rfl) ?_
    refine on_ c8 ?_
    refine v_ (Run.load rfl rfl Try.underlying3 rfl (box_cell (HS.mu 0 rfl) rfl)) ?_
    refine on_ c8 ?_
    refine mv_ ?_
    refine on_ c8 ?_
    refine v_ (Run.bin rfl rfl rfl bin_eql) ?_
    refine v_ (Run.pickT rfl rfl c8 rfl) ?_
    refine mv_ ?_
    by_cases c9 : x0.f0 = a1
    · rw [if_pos c9] at H
      refine on_ (beq_iff_eq.mpr c9) ?_
      refine v_ (Run.fieldAddr rfl rfl Try.underlying36 rfl (by kernel_rfl) rfl) ?_
      refine on_ (beq_iff_eq.mpr c9) ?_
      refine v_ (Run.load rfl rfl Try.underlying23 rfl (box_cell (HS.mu 0 rfl) rfl)) ?_
      refine on_ (beq_iff_eq.mpr c9) ?_
      refine v_ (Run.len (ts := #[]) rfl Try.underlying23 rfl) ?_
      refine on_ (beq_iff_eq.mpr c9) ?_
      refine mv_ ?_
      refine on_ (beq_iff_eq.mpr c9) ?_
      refine v_ (Run.bin rfl rfl rfl bin_eql) ?_
      refine v_ (Run.pickT rfl rfl (beq_iff_eq.mpr c9) rfl) ?_
      refine mv_ ?_
      by_cases c10 : (x0.f1.length : Int) = a2
      · rw [if_pos c10] at H
        refine on_ (beq_iff_eq.mpr c10) ?_
        refine v_ (Run.loadS (cs := [.int .i64 x0.f0, .slice A0_1 x0.f1.length c0_1, .slice A0_2 x0.f2.length c0_2, .int .i64 x0.f3, .int .i64 x0.f4]) rfl rfl Try.underlying36 rfl (by kernel_rfl) (box_part (HS.mu 0 rfl) part_all)) ?_
        refine on_ (beq_iff_eq.mpr c10) ?_
        obtain ⟨t11, ha12, H⟩ := bind_some H
        refine c_ Try.func86 (spec_l10Worst.calls k x0.f0 A0_1 c0_1 x0.f1 A0_2 c0_2 x0.f2 x0.f3 x0.f4 t11 _ (HS.getO 0 rfl) hc0_1 (HS.getO 1 rfl) hc0_2 ha12) ?_
        rintro _ w13 ⟨rfl, hb⟩
        replace HS := HS.below hb
        refine ⟨_, rfl, ?_⟩
        clear hb
        refine on_ (beq_iff_eq.mpr c10) ?_
        refine v_ (Run.bin rfl rfl rfl bin_leq) ?_
        refine v_ (Run.pickT rfl rfl (beq_iff_eq.mpr c10) rfl) ?_
        refine as_ ?_
        refine WL.done ?_
        refine WQ.via (fun _ _ h_ => h_) hK4 ?_
        refine WC.ret ?_
        obtain rfl := Option.some.inj H
        refine WQ.fin (e' := .ret) (fn := Try.f63) (fun _ _ h_ => h_) (WQ.ret1 rfl rfl ?_)
        exact hR_ _ _ ⟨rfl, HS.b⟩
      · rw [if_neg c10] at H
        refine off_ (c' := false) (beq_eq_false_iff_ne.mpr c10) ?_
        refine WL.know 22 (beq_eq_false_iff_ne.mpr c10) ?_
        refine fast_ ?_
        refine WQ.via (fun _ _ h_ => h_) hK4 ?_
        refine WC.ret ?_
        obtain rfl := Option.some.inj H
        refine WQ.fin (e' := .ret) (fn := Try.f63) (fun _ _ h_ => h_) (WQ.ret1 rfl rfl ?_)
        exact hR_ _ _ ⟨rfl, HS.b⟩
    · rw [if_neg c9] at H
      refine off_ (c' := false) (beq_eq_false_iff_ne.mpr c9) ?_
      refine WL.know 15 (beq_eq_false_iff_ne.mpr c9) ?_
      refine fast_ ?_
      refine WQ.via (fun _ _ h_ => h_) hK4 ?_
      refine WC.ret ?_
      obtain rfl := Option.some.inj H
      refine WQ.fin (e' := .ret) (fn := Try.f63) (fun _ _ h_ => h_) (WQ.ret1 rfl rfl ?_)
      exact hR_ _ _ ⟨rfl, HS.b⟩
  · rw [if_neg c8] at H
    refine off_ (c' := false) (Bool.eq_false_iff.mpr c8) ?_
    refine WL.know 9 (Bool.eq_false_iff.mpr c8) ?_
    refine fast_ ?_
    refine WQ.via (fun _ _ h_ => h_) hK4 ?_
    refine WC.ret ?_
    obtain rfl := Option.some.inj H
    refine WQ.fin (e' := .ret) (fn := Try.f63) (fun _ _ h_ => h_) (WQ.ret1 rfl rfl ?_)
    exact hR_ _ _ ⟨rfl, HS.b⟩
def spec_LayerOk.g (k : Nat) (x0 : S48) (a1 : Int) : Option Bool := ((spec_l05Width.f a1).bind fun t10 => (if t10 = true then ((spec_l05Width.f (x0.f6.f1.length : Int)).bind fun t14 => (if t14 = true then ((spec_GainOk.f k x0.f0 a1).bind fun t22 => (if t22 = true then ((spec_GainOk.f k x0.f5 a1).bind fun t30 => (if t30 = true then ((spec_l10Matrix.g k x0.f1 a1 a1).bind fun t42 => (if t42 = true then ((spec_l10Matrix.g k x0.f2 a1 a1).bind fun t54 => (if t54 = true then ((spec_l10Matrix.g k x0.f3 a1 a1).bind fun t66 => (if t66 = true then ((spec_l10Matrix.g k x0.f4 a1 a1).bind fun t78 => (if t78 = true then ((spec_l10Matrix.g k x0.f6 a1 (x0.f6.f1.length : Int)).bind fun t86 => (if t86 = true then ((spec_l10Matrix.g k x0.f7 (x0.f6.f1.length : Int) a1).bind fun t98 => (some t98)) else (some false))) else (some false))) else (some false))) else (some false))) else (some false))) else (some false))) else (some false))) else (some false))) else (some false)))
set_option maxHeartbeats 4000000 in
set_option maxRecDepth 20000 in
theorem spec_LayerOk.runs (k : Nat) (cs0 : List Value) (x0 : S48) (a1 : Int) (r : Bool) (w : World) (hk0 : k48.K w x0 cs0) (H : spec_LayerOk.g k x0 a1 = some r) :
    Calls Try.prog 20 #[.agg cs0.toArray, .int .i64 a1] w fun e w' => e = .returned (.bool r) ∧ Below w.heap.size w w' := by
  have el0 : cs0.length = 32 := k48.K_len hk0
  unfold spec_LayerOk.g at H
  have HS : St (fun _ => True) w w [] [(fun W => k48.K W x0 cs0)] [] := St.start (foot_cons (foot_K h48 hk0) foot_nil)
  refine calls_W Try.func20 rfl rfl (Nat.le_of_ble_eq_true rfl) (fun R_ hR_ => ?_)
  refine WC.seq (fun K1 hK1 => ?_)
  refine WC.region ?_
  refine WL.box HS rfl rfl (by decide) rfl rfl rfl (fun b2 w3 hb2 HS => ?_)
  refine as_ ?_
  refine WL.done ?_
  refine WQ.via (fun _ _ h_ => h_) hK1 ?_
  refine WC.seq (fun K4 hK4 => ?_)
  refine WC.region ?_
  refine v_ (Run.fieldAddr rfl rfl Try.underlying48 rfl (by kernel_rfl) rfl) ?_
  refine v_ (Run.fieldAddr rfl rfl Try.underlying36 rfl (by kernel_rfl) rfl) ?_
  obtain ⟨A5, c6, hc7, le8⟩ := (at48_23 (AtK.whole (HS.getO 0 rfl))).slice
  replace HS := HS.deriveO (p := (fun W => (Kd.slice 3 (Kd.int .i64)).C W A5 x0.f6.f1.length x0.f6.f1)) (fun W_ hO_ hN_ => (at48_23 (AtK.whole (AllF.get 0 rfl hO_))).C hc7)
  refine v_ (Run.load rfl rfl Try.underlying23 rfl (box_cell (HS.mu 0 rfl) hc7)) ?_
  refine v_ (Run.len (ts := #[]) rfl Try.underlying23 rfl) ?_
  refine as_ ?_
  refine WL.done ?_
  refine WQ.via (fun _ _ h_ => h_) hK4 ?_
  refine WC.seq (fun K9 hK9 => ?_)
  refine WC.region ?_
  refine mv_ ?_
  obtain ⟨t10, ha11, H⟩ := bind_some H
  refine c_ Try.func61 (spec_l05Width.calls a1 t10 _ ha11) ?_
  rintro _ w12 ⟨rfl, hb⟩
  have hb := hb.below
  replace HS := HS.below hb
  refine ⟨_, rfl, ?_⟩
  clear hb
  refine mv_ ?_
  by_cases c13 : t10 = true
  · rw [if_pos c13] at H
    refine on_ c13 ?_
    refine mv_ ?_
    refine on_ c13 ?_
    obtain ⟨t14, ha15, H⟩ := bind_some H
    refine c_ Try.func61 (spec_l05Width.calls (x0.f6.f1.length : Int) t14 _ ha15) ?_
    rintro _ w16 ⟨rfl, hb⟩
    have hb := hb.below
    replace HS := HS.below hb
    refine ⟨_, rfl, ?_⟩
    clear hb
    refine v_ (Run.pickT rfl rfl c13 rfl) ?_
    refine mv_ ?_
    by_cases c17 : t14 = true
    · rw [if_pos c17] at H
      refine on_ c17 ?_
      refine v_ (Run.fieldAddr rfl rfl Try.underlying48 rfl (by kernel_rfl) rfl) ?_
      refine on_ c17 ?_
      obtain ⟨A18, c19, hc20, le21⟩ := (at48_0 (AtK.whole (HS.getO 1 rfl))).slice
      replace HS := HS.deriveO (p := (fun W => (Kd.int .i64).C W A18 x0.f0.length x0.f0)) (fun W_ hO_ hN_ => (at48_0 (AtK.whole (AllF.get 1 rfl hO_))).C hc20)
      refine v_ (Run.load rfl rfl Try.underlying25 rfl (box_cell (HS.mu 0 rfl) hc20)) ?_
      refine on_ c17 ?_
      refine mv_ ?_
      refine on_ c17 ?_
      obtain ⟨t22, ha23, H⟩ := bind_some H
      refine c_ Try.func62 (spec_GainOk.calls k A18 c19 x0.f0 a1 t22 _ (HS.getO 0 rfl) le21 ha23) ?_
      rintro _ w24 ⟨rfl, hb⟩
      have hb := hb.below
      replace HS := HS.below hb
      refine ⟨_, rfl, ?_⟩
      clear hb
      refine v_ (Run.pickT rfl rfl c17 rfl) ?_
      refine mv_ ?_
      by_cases c25 : t22 = true
      · rw [if_pos c25] at H
        refine on_ c25 ?_
        refine v_ (Run.fieldAddr rfl rfl Try.underlying48 rfl (by kernel_rfl) rfl) ?_
        refine on_ c25 ?_
        obtain ⟨A26, c27, hc28, le29⟩ := (at48_21 (AtK.whole (HS.getO 2 rfl))).slice
        replace HS := HS.deriveO (p := (fun W => (Kd.int .i64).C W A26 x0.f5.length x0.f5)) (fun W_ hO_ hN_ => (at48_21 (AtK.whole (AllF.get 2 rfl hO_))).C hc28)
        refine v_ (Run.load rfl rfl Try.underlying25 rfl (box_cell (HS.mu 0 rfl) hc28)) ?_
        refine on_ c25 ?_
        refine mv_ ?_
        refine on_ c25 ?_
        obtain ⟨t30, ha31, H⟩ := bind_some H
        refine c_ Try.func62 (spec_GainOk.calls k A26 c27 x0.f5 a1 t30 _ (HS.getO 0 rfl) le29 ha31) ?_
        rintro _ w32 ⟨rfl, hb⟩
        have hb := hb.below
        replace HS := HS.below hb
        refine ⟨_, rfl, ?_⟩
        clear hb
        refine v_ (Run.pickT rfl rfl c25 rfl) ?_
        refine mv_ ?_
        by_cases c33 : t30 = true
        · rw [if_pos c33] at H
          refine on_ c33 ?_
          refine v_ (Run.fieldAddr rfl rfl Try.underlying48 rfl (by kernel_rfl) rfl) ?_
          refine on_ c33 ?_
          obtain ⟨A34, c35, hc36, le37⟩ := (at48_2 (AtK.whole (HS.getO 3 rfl))).slice
          replace HS := HS.deriveO (p := (fun W => (Kd.slice 3 (Kd.int .i64)).C W A34 x0.f1.f1.length x0.f1.f1)) (fun W_ hO_ hN_ => (at48_2 (AtK.whole (AllF.get 3 rfl hO_))).C hc36)
          obtain ⟨A38, c39, hc40, le41⟩ := (at48_3 (AtK.whole (HS.getO 4 rfl))).slice
          replace HS := HS.deriveO (p := (fun W => (Kd.slice 3 (Kd.int .i64)).C W A38 x0.f1.f2.length x0.f1.f2)) (fun W_ hO_ hN_ => (at48_3 (AtK.whole (AllF.get 4 rfl hO_))).C hc40)
          refine v_ (Run.loadS (cs := [.int .i64 x0.f1.f0, .slice A34 x0.f1.f1.length c35, .slice A38 x0.f1.f2.length c39, .int .i64 x0.f1.f3, .int .i64 x0.f1.f4]) rfl rfl Try.underlying36 rfl (by kernel_rfl) (box_part (HS.mu 0 rfl) (part_cons (at48_1 (AtK.whole (HS.getO 5 rfl))).int (part_cons hc36 (part_cons hc40 (part_cons (at48_4 (AtK.whole (HS.getO 5 rfl))).int (part_cons (at48_5 (AtK.whole (HS.getO 5 rfl))).int part_nil))))))) ?_
          refine on_ c33 ?_
          refine mv_ ?_
          refine on_ c33 ?_
          refine mv_ ?_
          refine on_ c33 ?_
          obtain ⟨t42, ha43, H⟩ := bind_some H
          refine c_ Try.func63 (spec_l10Matrix.runs k x0.f1 A34 c35 A38 c39 a1 a1 t42 _ (HS.getO 1 rfl) le37 (HS.getO 0 rfl) le41 ha43) ?_
          rintro _ w44 ⟨rfl, hb⟩
          replace HS := HS.below hb
          refine ⟨_, rfl, ?_⟩
          clear hb
          refine v_ (Run.pickT rfl rfl c33 rfl) ?_
          refine mv_ ?_
          by_cases c45 : t42 = true
          · rw [if_pos c45] at H
            refine on_ c45 ?_
            refine v_ (Run.fieldAddr rfl rfl Try.underlying48 rfl (by kernel_rfl) rfl) ?_
            refine on_ c45 ?_
            obtain ⟨A46, c47, hc48, le49⟩ := (at48_7 (AtK.whole (HS.getO 5 rfl))).slice
            replace HS := HS.deriveO (p := (fun W => (Kd.slice 3 (Kd.int .i64)).C W A46 x0.f2.f1.length x0.f2.f1)) (fun W_ hO_ hN_ => (at48_7 (AtK.whole (AllF.get 5 rfl hO_))).C hc48)
            obtain ⟨A50, c51, hc52, le53⟩ := (at48_8 (AtK.whole (HS.getO 6 rfl))).slice
            replace HS := HS.deriveO (p := (fun W => (Kd.slice 3 (Kd.int .i64)).C W A50 x0.f2.f2.length x0.f2.f2)) (fun W_ hO_ hN_ => (at48_8 (AtK.whole (AllF.get 6 rfl hO_))).C hc52)
            refine v_ (Run.loadS (cs := [.int .i64 x0.f2.f0, .slice A46 x0.f2.f1.length c47, .slice A50 x0.f2.f2.length c51, .int .i64 x0.f2.f3, .int .i64 x0.f2.f4]) rfl rfl Try.underlying36 rfl (by kernel_rfl) (box_part (HS.mu 0 rfl) (part_cons (at48_6 (AtK.whole (HS.getO 7 rfl))).int (part_cons hc48 (part_cons hc52 (part_cons (at48_9 (AtK.whole (HS.getO 7 rfl))).int (part_cons (at48_10 (AtK.whole (HS.getO 7 rfl))).int part_nil))))))) ?_
            refine on_ c45 ?_
            refine mv_ ?_
            refine on_ c45 ?_
            refine mv_ ?_
            refine on_ c45 ?_
            obtain ⟨t54, ha55, H⟩ := bind_some H
            refine c_ Try.func63 (spec_l10Matrix.runs k x0.f2 A46 c47 A50 c51 a1 a1 t54 _ (HS.getO 1 rfl) le49 (HS.getO 0 rfl) le53 ha55) ?_
            rintro _ w56 ⟨rfl, hb⟩
            replace HS := HS.below hb
            refine ⟨_, rfl, ?_⟩
            clear hb
            refine v_ (Run.pickT rfl rfl c45 rfl) ?_
            refine mv_ ?_
            by_cases c57 : t54 = true
            · rw [if_pos c57] at H
              refine on_ c57 ?_
              refine v_ (Run.fieldAddr rfl rfl Try.underlying48 rfl (by kernel_rfl) rfl) ?_
              refine on_ c57 ?_
              obtain ⟨A58, c59, hc60, le61⟩ := (at48_12 (AtK.whole (HS.getO 7 rfl))).slice
              replace HS := HS.deriveO (p := (fun W => (Kd.slice 3 (Kd.int .i64)).C W A58 x0.f3.f1.length x0.f3.f1)) (fun W_ hO_ hN_ => (at48_12 (AtK.whole (AllF.get 7 rfl hO_))).C hc60)
              obtain ⟨A62, c63, hc64, le65⟩ := (at48_13 (AtK.whole (HS.getO 8 rfl))).slice
              replace HS := HS.deriveO (p := (fun W => (Kd.slice 3 (Kd.int .i64)).C W A62 x0.f3.f2.length x0.f3.f2)) (fun W_ hO_ hN_ => (at48_13 (AtK.whole (AllF.get 8 rfl hO_))).C hc64)
              refine v_ (Run.loadS (cs := [.int .i64 x0.f3.f0, .slice A58 x0.f3.f1.length c59, .slice A62 x0.f3.f2.length c63, .int .i64 x0.f3.f3, .int .i64 x0.f3.f4]) rfl rfl Try.underlying36 rfl (by kernel_rfl) (box_part (HS.mu 0 rfl) (part_cons (at48_11 (AtK.whole (HS.getO 9 rfl))).int (part_cons hc60 (part_cons hc64 (part_cons (at48_14 (AtK.whole (HS.getO 9 rfl))).int (part_cons (at48_15 (AtK.whole (HS.getO 9 rfl))).int part_nil))))))) ?_
              refine on_ c57 ?_
              refine mv_ ?_
              refine on_ c57 ?_
              refine mv_ ?_
              refine on_ c57 ?_
              obtain ⟨t66, ha67, H⟩ := bind_some H
              refine c_ Try.func63 (spec_l10Matrix.runs k x0.f3 A58 c59 A62 c63 a1 a1 t66 _ (HS.getO 1 rfl) le61 (HS.getO 0 rfl) le65 ha67) ?_
              rintro _ w68 ⟨rfl, hb⟩
              replace HS := HS.below hb
              refine ⟨_, rfl, ?_⟩
              clear hb
              refine v_ (Run.pickT rfl rfl c57 rfl) ?_
              refine mv_ ?_
              by_cases c69 : t66 = true
              · rw [if_pos c69] at H
                refine on_ c69 ?_
                refine v_ (Run.fieldAddr rfl rfl Try.underlying48 rfl (by kernel_rfl) rfl) ?_
                refine on_ c69 ?_
                obtain ⟨A70, c71, hc72, le73⟩ := (at48_17 (AtK.whole (HS.getO 9 rfl))).slice
                replace HS := HS.deriveO (p := (fun W => (Kd.slice 3 (Kd.int .i64)).C W A70 x0.f4.f1.length x0.f4.f1)) (fun W_ hO_ hN_ => (at48_17 (AtK.whole (AllF.get 9 rfl hO_))).C hc72)
                obtain ⟨A74, c75, hc76, le77⟩ := (at48_18 (AtK.whole (HS.getO 10 rfl))).slice
                replace HS := HS.deriveO (p := (fun W => (Kd.slice 3 (Kd.int .i64)).C W A74 x0.f4.f2.length x0.f4.f2)) (fun W_ hO_ hN_ => (at48_18 (AtK.whole (AllF.get 10 rfl hO_))).C hc76)
                refine v_ (Run.loadS (cs := [.int .i64 x0.f4.f0, .slice A70 x0.f4.f1.length c71, .slice A74 x0.f4.f2.length c75, .int .i64 x0.f4.f3, .int .i64 x0.f4.f4]) rfl rfl Try.underlying36 rfl (by kernel_rfl) (box_part (HS.mu 0 rfl) (part_cons (at48_16 (AtK.whole (HS.getO 11 rfl))).int (part_cons hc72 (part_cons hc76 (part_cons (at48_19 (AtK.whole (HS.getO 11 rfl))).int (part_cons (at48_20 (AtK.whole (HS.getO 11 rfl))).int part_nil))))))) ?_
                refine on_ c69 ?_
                refine mv_ ?_
                refine on_ c69 ?_
                refine mv_ ?_
                refine on_ c69 ?_
                obtain ⟨t78, ha79, H⟩ := bind_some H
                refine c_ Try.func63 (spec_l10Matrix.runs k x0.f4 A70 c71 A74 c75 a1 a1 t78 _ (HS.getO 1 rfl) le73 (HS.getO 0 rfl) le77 ha79) ?_
                rintro _ w80 ⟨rfl, hb⟩
                replace HS := HS.below hb
                refine ⟨_, rfl, ?_⟩
                clear hb
                refine v_ (Run.pickT rfl rfl c69 rfl) ?_
                refine mv_ ?_
                by_cases c81 : t78 = true
                · rw [if_pos c81] at H
                  refine on_ c81 ?_
                  refine v_ (Run.fieldAddr rfl rfl Try.underlying48 rfl (by kernel_rfl) rfl) ?_
                  refine on_ c81 ?_
                  obtain ⟨A82, c83, hc84, le85⟩ := (at48_24 (AtK.whole (HS.getO 11 rfl))).slice
                  replace HS := HS.deriveO (p := (fun W => (Kd.slice 3 (Kd.int .i64)).C W A82 x0.f6.f2.length x0.f6.f2)) (fun W_ hO_ hN_ => (at48_24 (AtK.whole (AllF.get 11 rfl hO_))).C hc84)
                  refine v_ (Run.loadS (cs := [.int .i64 x0.f6.f0, .slice A5 x0.f6.f1.length c6, .slice A82 x0.f6.f2.length c83, .int .i64 x0.f6.f3, .int .i64 x0.f6.f4]) rfl rfl Try.underlying36 rfl (by kernel_rfl) (box_part (HS.mu 0 rfl) (part_cons (at48_22 (AtK.whole (HS.getO 12 rfl))).int (part_cons hc7 (part_cons hc84 (part_cons (at48_25 (AtK.whole (HS.getO 12 rfl))).int (part_cons (at48_26 (AtK.whole (HS.getO 12 rfl))).int part_nil))))))) ?_
                  refine on_ c81 ?_
                  refine mv_ ?_
                  refine on_ c81 ?_
                  refine mv_ ?_
                  refine on_ c81 ?_
                  obtain ⟨t86, ha87, H⟩ := bind_some H
                  refine c_ Try.func63 (spec_l10Matrix.runs k x0.f6 A5 c6 A82 c83 a1 (x0.f6.f1.length : Int) t86 _ (HS.getO 11 rfl) le8 (HS.getO 0 rfl) le85 ha87) ?_
                  rintro _ w88 ⟨rfl, hb⟩
                  replace HS := HS.below hb
                  refine ⟨_, rfl, ?_⟩
                  clear hb
                  refine v_ (Run.pickT rfl rfl c81 rfl) ?_
                  refine mv_ ?_
                  by_cases c89 : t86 = true
                  · rw [if_pos c89] at H
                    refine on_ c89 ?_
                    refine v_ (Run.fieldAddr rfl rfl Try.underlying48 rfl (by kernel_rfl) rfl) ?_
                    refine on_ c89 ?_
                    obtain ⟨A90, c91, hc92, le93⟩ := (at48_28 (AtK.whole (HS.getO 12 rfl))).slice
                    replace HS := HS.deriveO (p := (fun W => (Kd.slice 3 (Kd.int .i64)).C W A90 x0.f7.f1.length x0.f7.f1)) (fun W_ hO_ hN_ => (at48_28 (AtK.whole (AllF.get 12 rfl hO_))).C hc92)
                    obtain ⟨A94, c95, hc96, le97⟩ := (at48_29 (AtK.whole (HS.getO 13 rfl))).slice
                    replace HS := HS.deriveO (p := (fun W => (Kd.slice 3 (Kd.int .i64)).C W A94 x0.f7.f2.length x0.f7.f2)) (fun W_ hO_ hN_ => (at48_29 (AtK.whole (AllF.get 13 rfl hO_))).C hc96)
                    refine v_ (Run.loadS (cs := [.int .i64 x0.f7.f0, .slice A90 x0.f7.f1.length c91, .slice A94 x0.f7.f2.length c95, .int .i64 x0.f7.f3, .int .i64 x0.f7.f4]) rfl rfl Try.underlying36 rfl (by kernel_rfl) (box_part (HS.mu 0 rfl) (part_cons (at48_27 (AtK.whole (HS.getO 14 rfl))).int (part_cons hc92 (part_cons hc96 (part_cons (at48_30 (AtK.whole (HS.getO 14 rfl))).int (part_cons (at48_31 (AtK.whole (HS.getO 14 rfl))).int part_nil))))))) ?_
                    refine on_ c89 ?_
                    refine mv_ ?_
                    refine on_ c89 ?_
                    refine mv_ ?_
                    refine on_ c89 ?_
                    obtain ⟨t98, ha99, H⟩ := bind_some H
                    refine c_ Try.func63 (spec_l10Matrix.runs k x0.f7 A90 c91 A94 c95 (x0.f6.f1.length : Int) a1 t98 _ (HS.getO 1 rfl) le93 (HS.getO 0 rfl) le97 ha99) ?_
                    rintro _ w100 ⟨rfl, hb⟩
                    replace HS := HS.below hb
                    refine ⟨_, rfl, ?_⟩
                    clear hb
                    refine v_ (Run.pickT rfl rfl c89 rfl) ?_
                    refine as_ ?_
                    refine WL.done ?_
                    refine WQ.via (fun _ _ h_ => h_) hK9 ?_
                    refine WC.ret ?_
                    obtain rfl := Option.some.inj H
                    refine WQ.fin (e' := .ret) (fn := Try.f20) (fun _ _ h_ => h_) (WQ.ret1 rfl rfl ?_)
                    exact hR_ _ _ ⟨rfl, HS.b⟩
                  · rw [if_neg c89] at H
                    refine off_ (c' := false) (Bool.eq_false_iff.mpr c89) ?_
                    refine WL.know 63 (Bool.eq_false_iff.mpr c89) ?_
                    refine fast_ ?_
                    refine WQ.via (fun _ _ h_ => h_) hK9 ?_
                    refine WC.ret ?_
                    obtain rfl := Option.some.inj H
                    refine WQ.fin (e' := .ret) (fn := Try.f20) (fun _ _ h_ => h_) (WQ.ret1 rfl rfl ?_)
                    exact hR_ _ _ ⟨rfl, HS.b⟩
                · rw [if_neg c81] at H
                  refine off_ (c' := false) (Bool.eq_false_iff.mpr c81) ?_
                  refine WL.know 56 (Bool.eq_false_iff.mpr c81) ?_
                  refine fast_ ?_
                  refine WQ.via (fun _ _ h_ => h_) hK9 ?_
                  refine WC.ret ?_
                  obtain rfl := Option.some.inj H
                  refine WQ.fin (e' := .ret) (fn := Try.f20) (fun _ _ h_ => h_) (WQ.ret1 rfl rfl ?_)
                  exact hR_ _ _ ⟨rfl, HS.b⟩
              · rw [if_neg c69] at H
                refine off_ (c' := false) (Bool.eq_false_iff.mpr c69) ?_
                refine WL.know 49 (Bool.eq_false_iff.mpr c69) ?_
                refine fast_ ?_
                refine WQ.via (fun _ _ h_ => h_) hK9 ?_
                refine WC.ret ?_
                obtain rfl := Option.some.inj H
                refine WQ.fin (e' := .ret) (fn := Try.f20) (fun _ _ h_ => h_) (WQ.ret1 rfl rfl ?_)
                exact hR_ _ _ ⟨rfl, HS.b⟩
            · rw [if_neg c57] at H
              refine off_ (c' := false) (Bool.eq_false_iff.mpr c57) ?_
              refine WL.know 42 (Bool.eq_false_iff.mpr c57) ?_
              refine fast_ ?_
              refine WQ.via (fun _ _ h_ => h_) hK9 ?_
              refine WC.ret ?_
              obtain rfl := Option.some.inj H
              refine WQ.fin (e' := .ret) (fn := Try.f20) (fun _ _ h_ => h_) (WQ.ret1 rfl rfl ?_)
              exact hR_ _ _ ⟨rfl, HS.b⟩
          · rw [if_neg c45] at H
            refine off_ (c' := false) (Bool.eq_false_iff.mpr c45) ?_
            refine WL.know 35 (Bool.eq_false_iff.mpr c45) ?_
            refine fast_ ?_
            refine WQ.via (fun _ _ h_ => h_) hK9 ?_
            refine WC.ret ?_
            obtain rfl := Option.some.inj H
            refine WQ.fin (e' := .ret) (fn := Try.f20) (fun _ _ h_ => h_) (WQ.ret1 rfl rfl ?_)
            exact hR_ _ _ ⟨rfl, HS.b⟩
        · rw [if_neg c33] at H
          refine off_ (c' := false) (Bool.eq_false_iff.mpr c33) ?_
          refine WL.know 28 (Bool.eq_false_iff.mpr c33) ?_
          refine fast_ ?_
          refine WQ.via (fun _ _ h_ => h_) hK9 ?_
          refine WC.ret ?_
          obtain rfl := Option.some.inj H
          refine WQ.fin (e' := .ret) (fn := Try.f20) (fun _ _ h_ => h_) (WQ.ret1 rfl rfl ?_)
          exact hR_ _ _ ⟨rfl, HS.b⟩
      · rw [if_neg c25] at H
        refine off_ (c' := false) (Bool.eq_false_iff.mpr c25) ?_
        refine WL.know 22 (Bool.eq_false_iff.mpr c25) ?_
        refine fast_ ?_
        refine WQ.via (fun _ _ h_ => h_) hK9 ?_
        refine WC.ret ?_
        obtain rfl := Option.some.inj H
        refine WQ.fin (e' := .ret) (fn := Try.f20) (fun _ _ h_ => h_) (WQ.ret1 rfl rfl ?_)
        exact hR_ _ _ ⟨rfl, HS.b⟩
    · rw [if_neg c17] at H
      refine off_ (c' := false) (Bool.eq_false_iff.mpr c17) ?_
      refine WL.know 16 (Bool.eq_false_iff.mpr c17) ?_
      refine fast_ ?_
      refine WQ.via (fun _ _ h_ => h_) hK9 ?_
      refine WC.ret ?_
      obtain rfl := Option.some.inj H
      refine WQ.fin (e' := .ret) (fn := Try.f20) (fun _ _ h_ => h_) (WQ.ret1 rfl rfl ?_)
      exact hR_ _ _ ⟨rfl, HS.b⟩
  · rw [if_neg c13] at H
    refine off_ (c' := false) (Bool.eq_false_iff.mpr c13) ?_
    refine WL.know 12 (Bool.eq_false_iff.mpr c13) ?_
    refine fast_ ?_
    refine WQ.via (fun _ _ h_ => h_) hK9 ?_
    refine WC.ret ?_
    obtain rfl := Option.some.inj H
    refine WQ.fin (e' := .ret) (fn := Try.f20) (fun _ _ h_ => h_) (WQ.ret1 rfl rfl ?_)
    exact hR_ _ _ ⟨rfl, HS.b⟩
def spec_Vocab.g (k : Nat) (x0 : S39) : Option Int := (some (wrap64 (256 + (x0.f3.length : Int))))
set_option maxHeartbeats 4000000 in
set_option maxRecDepth 20000 in
theorem spec_Vocab.runs (k : Nat) (cs0 : List Value) (x0 : S39) (r : Int) (w : World) (hk0 : k39.K w x0 cs0) (H : spec_Vocab.g k x0 = some r) :
    Calls Try.prog 15 #[.agg cs0.toArray] w fun e w' => e = .returned (.int .i64 r) ∧ Below w.heap.size w w' := by
  have el0 : cs0.length = 14 := k39.K_len hk0
  unfold spec_Vocab.g at H
  have HS : St (fun _ => True) w w [] [(fun W => k39.K W x0 cs0)] [] := St.start (foot_cons (foot_K h39 hk0) foot_nil)
  refine calls_W Try.func15 rfl rfl (Nat.le_of_ble_eq_true rfl) (fun R_ hR_ => ?_)
  refine WC.seq (fun K1 hK1 => ?_)
  refine WC.region ?_
  refine WL.box HS rfl rfl (by decide) rfl rfl rfl (fun b2 w3 hb2 HS => ?_)
  refine as_ ?_
  refine WL.done ?_
  refine WQ.via (fun _ _ h_ => h_) hK1 ?_
  refine WC.seq (fun K4 hK4 => ?_)
  refine WC.region ?_
  refine v_ (Run.fieldAddr rfl rfl Try.underlying39 rfl (by kernel_rfl) rfl) ?_
  obtain ⟨A5, c6, hc7, le8⟩ := (at39_3 (AtK.whole (HS.getO 0 rfl))).slice
  replace HS := HS.deriveO (p := (fun W => k112.C W A5 x0.f3.length x0.f3)) (fun W_ hO_ hN_ => (at39_3 (AtK.whole (AllF.get 0 rfl hO_))).C hc7)
  refine v_ (Run.load rfl rfl Try.underlying34 rfl (box_cell (HS.mu 0 rfl) hc7)) ?_
  refine v_ (Run.len (ts := #[]) rfl Try.underlying34 rfl) ?_
  refine v_ (Run.bin rfl rfl rfl bin_add64) ?_
  refine as_ ?_
  refine WL.done ?_
  refine WQ.via (fun _ _ h_ => h_) hK4 ?_
  refine WC.ret ?_
  obtain rfl := Option.some.inj H
  refine WQ.fin (e' := .ret) (fn := Try.f15) (fun _ _ h_ => h_) (WQ.ret1 rfl rfl ?_)
  exact hR_ _ _ ⟨rfl, HS.b⟩
end Go.Proofs.Ytacbkcofcbglhaa.PFnExactModelOk
