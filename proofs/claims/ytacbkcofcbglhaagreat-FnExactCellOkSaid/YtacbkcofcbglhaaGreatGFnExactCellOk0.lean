/- Functions that the statement reaches, as Lean functions, and the proof that a call of each comes to just its answer; written by this claim's own program. No conditions. -/
import Derived.Test.YtacbkcofcbglhaaGreatPFnExactCellOkx0
import Derived.Test.YtacbkcofcbglhaaGreatPFnExactCellOkx1
import Derived.Test.YtacbkcofcbglhaaGreatPFnExactCellOkx2
import Derived.Test.YtacbkcofcbglhaaGreatPFnExactCellOkx3
import Derived.Test.YtacbkcofcbglhaaGreatPFnExactCellOkx4
import Derived.Test.YtacbkcofcbglhaaGreatPFnExactCellOkx5
import Derived.Test.YtacbkcofcbglhaaGreatPFnExactCellOkx6
import Derived.Test.YtacbkcofcbglhaaGreatPFnExactCellOkx7
import Derived.Test.YtacbkcofcbglhaaGreatPFnExactCellOkx8
import Derived.Test.YtacbkcofcbglhaaGreatPFnExactCellOkx9
import Derived.Test.YtacbkcofcbglhaaGreatVFnExactCellOk1
namespace Go.Proofs.YtacbkcofcbglhaaGreat.PFnExactCellOk
open Go.RowKit Go.Proofs.YtacbkcofcbglhaaGreatW.PrintWords Go.Proofs.YtacbkcofcbglhaaGreatW.PrintLast Go.Proofs.YtacbkcofcbglhaaGreatW.PrintMore Go.Proofs.YtacbkcofcbglhaaGreat.XW Go.Proofs.YtacbkcofcbglhaaGreat.XOp Go.Proofs.YtacbkcofcbglhaaGreat.XSt Go.Proofs.YtacbkcofcbglhaaGreat.XDraw
set_option linter.unusedVariables false
set_option linter.unusedSimpArgs false
set_option maxHeartbeats 4000000
set_option maxRecDepth 20000
structure S24 where
  f0 : List (List S107)
  f1 : List (List S107)
def k24 : Kd S24 := Kd.iso (Kd.pair (Kd.slice 75 (Kd.slice 107 k107)) (Kd.slice 75 (Kd.slice 107 k107))) (fun x : S24 => (x.f0, x.f1))
structure S30 where
  f0 : Int
  f1 : List (List Int)
  f2 : List (List Int)
  f3 : Int
  f4 : Int
def k30 : Kd S30 := Kd.iso (Kd.pair (Kd.int .i64) (Kd.pair (Kd.slice 28 (Kd.slice 3 (Kd.int .i64))) (Kd.pair (Kd.slice 28 (Kd.slice 3 (Kd.int .i64))) (Kd.pair (Kd.int .i64) (Kd.int .i64))))) (fun x : S30 => (x.f0, x.f1, x.f2, x.f3, x.f4))
structure S32 where
  f0 : List (List Int)
  f1 : List (List Int)
def k32 : Kd S32 := Kd.iso (Kd.pair (Kd.slice 28 (Kd.slice 3 (Kd.int .i64))) (Kd.slice 28 (Kd.slice 3 (Kd.int .i64)))) (fun x : S32 => (x.f0, x.f1))
structure S78 where
  f0 : List Int
  f1 : S30
  f2 : S30
  f3 : S30
  f4 : S30
  f5 : List Int
  f6 : S30
  f7 : S30
def k78 : Kd S78 := Kd.iso (Kd.pair (Kd.slice 3 (Kd.int .i64)) (Kd.pair k30 (Kd.pair k30 (Kd.pair k30 (Kd.pair k30 (Kd.pair (Kd.slice 3 (Kd.int .i64)) (Kd.pair k30 k30))))))) (fun x : S78 => (x.f0, x.f1, x.f2, x.f3, x.f4, x.f5, x.f6, x.f7))
structure S34 where
  f0 : Int
  f1 : Int
  f2 : Int
  f3 : List S96
  f4 : List (List Int)
  f5 : List S78
  f6 : List Int
  f7 : S30
  f8 : S32
def k34 : Kd S34 := Kd.iso (Kd.pair (Kd.int .i64) (Kd.pair (Kd.int .i64) (Kd.pair (Kd.int .i64) (Kd.pair (Kd.slice 96 k96) (Kd.pair (Kd.slice 28 (Kd.slice 3 (Kd.int .i64))) (Kd.pair (Kd.slice 78 k78) (Kd.pair (Kd.slice 3 (Kd.int .i64)) (Kd.pair k30 k32)))))))) (fun x : S34 => (x.f0, x.f1, x.f2, x.f3, x.f4, x.f5, x.f6, x.f7, x.f8))
structure S40 where
  f0 : List (List S111)
  f1 : List (List S111)
structure S44 where
  f0 : Int
  f1 : List (List Int)
  f2 : List (List Int)
  f3 : Int
  f4 : Int
def k44 : Kd S44 := Kd.iso (Kd.pair (Kd.int .i64) (Kd.pair (Kd.slice 28 (Kd.slice 3 (Kd.int .i64))) (Kd.pair (Kd.slice 28 (Kd.slice 3 (Kd.int .i64))) (Kd.pair (Kd.int .i64) (Kd.int .i64))))) (fun x : S44 => (x.f0, x.f1, x.f2, x.f3, x.f4))
theorem k44_mk (w : World) (x : S44) {A1 : Option Addr} {c1 : Nat} (l1 : x.f1.length ≤ c1) (g1 : (Kd.slice 3 (Kd.int .i64)).C w A1 x.f1.length x.f1) {A2 : Option Addr} {c2 : Nat} (l2 : x.f2.length ≤ c2) (g2 : (Kd.slice 3 (Kd.int .i64)).C w A2 x.f2.length x.f2) : k44.K w x [.int .i64 x.f0, .slice A1 x.f1.length c1, .slice A2 x.f2.length c2, .int .i64 x.f3, .int .i64 x.f4] := ⟨[.int .i64 x.f0], [.slice A1 x.f1.length c1, .slice A2 x.f2.length c2, .int .i64 x.f3, .int .i64 x.f4], rfl, rfl, ⟨[.slice A1 x.f1.length c1], [.slice A2 x.f2.length c2, .int .i64 x.f3, .int .i64 x.f4], rfl, ⟨A1, c1, rfl, l1, g1⟩, ⟨[.slice A2 x.f2.length c2], [.int .i64 x.f3, .int .i64 x.f4], rfl, ⟨A2, c2, rfl, l2, g2⟩, ⟨[.int .i64 x.f3], [.int .i64 x.f4], rfl, rfl, rfl⟩⟩⟩⟩
structure S45 where
  f0 : List (List Int)
  f1 : List (List Int)
def k45 : Kd S45 := Kd.iso (Kd.pair (Kd.slice 28 (Kd.slice 3 (Kd.int .i64))) (Kd.slice 28 (Kd.slice 3 (Kd.int .i64)))) (fun x : S45 => (x.f0, x.f1))
structure S86 where
  f0 : List Int
  f1 : S44
  f2 : S44
  f3 : S44
  f4 : S44
  f5 : List Int
  f6 : S44
  f7 : S44
def k86 : Kd S86 := Kd.iso (Kd.pair (Kd.slice 3 (Kd.int .i64)) (Kd.pair k44 (Kd.pair k44 (Kd.pair k44 (Kd.pair k44 (Kd.pair (Kd.slice 3 (Kd.int .i64)) (Kd.pair k44 k44))))))) (fun x : S86 => (x.f0, x.f1, x.f2, x.f3, x.f4, x.f5, x.f6, x.f7))
theorem k86_mk (w : World) (x : S86) {A0 : Option Addr} {c0 : Nat} (l0 : x.f0.length ≤ c0) (g0 : (Kd.int .i64).C w A0 x.f0.length x.f0) {A2 : Option Addr} {c2 : Nat} (l2 : x.f1.f1.length ≤ c2) (g2 : (Kd.slice 3 (Kd.int .i64)).C w A2 x.f1.f1.length x.f1.f1) {A3 : Option Addr} {c3 : Nat} (l3 : x.f1.f2.length ≤ c3) (g3 : (Kd.slice 3 (Kd.int .i64)).C w A3 x.f1.f2.length x.f1.f2) {A7 : Option Addr} {c7 : Nat} (l7 : x.f2.f1.length ≤ c7) (g7 : (Kd.slice 3 (Kd.int .i64)).C w A7 x.f2.f1.length x.f2.f1) {A8 : Option Addr} {c8 : Nat} (l8 : x.f2.f2.length ≤ c8) (g8 : (Kd.slice 3 (Kd.int .i64)).C w A8 x.f2.f2.length x.f2.f2) {A12 : Option Addr} {c12 : Nat} (l12 : x.f3.f1.length ≤ c12) (g12 : (Kd.slice 3 (Kd.int .i64)).C w A12 x.f3.f1.length x.f3.f1) {A13 : Option Addr} {c13 : Nat} (l13 : x.f3.f2.length ≤ c13) (g13 : (Kd.slice 3 (Kd.int .i64)).C w A13 x.f3.f2.length x.f3.f2) {A17 : Option Addr} {c17 : Nat} (l17 : x.f4.f1.length ≤ c17) (g17 : (Kd.slice 3 (Kd.int .i64)).C w A17 x.f4.f1.length x.f4.f1) {A18 : Option Addr} {c18 : Nat} (l18 : x.f4.f2.length ≤ c18) (g18 : (Kd.slice 3 (Kd.int .i64)).C w A18 x.f4.f2.length x.f4.f2) {A21 : Option Addr} {c21 : Nat} (l21 : x.f5.length ≤ c21) (g21 : (Kd.int .i64).C w A21 x.f5.length x.f5) {A23 : Option Addr} {c23 : Nat} (l23 : x.f6.f1.length ≤ c23) (g23 : (Kd.slice 3 (Kd.int .i64)).C w A23 x.f6.f1.length x.f6.f1) {A24 : Option Addr} {c24 : Nat} (l24 : x.f6.f2.length ≤ c24) (g24 : (Kd.slice 3 (Kd.int .i64)).C w A24 x.f6.f2.length x.f6.f2) {A28 : Option Addr} {c28 : Nat} (l28 : x.f7.f1.length ≤ c28) (g28 : (Kd.slice 3 (Kd.int .i64)).C w A28 x.f7.f1.length x.f7.f1) {A29 : Option Addr} {c29 : Nat} (l29 : x.f7.f2.length ≤ c29) (g29 : (Kd.slice 3 (Kd.int .i64)).C w A29 x.f7.f2.length x.f7.f2) : k86.K w x [.slice A0 x.f0.length c0, .int .i64 x.f1.f0, .slice A2 x.f1.f1.length c2, .slice A3 x.f1.f2.length c3, .int .i64 x.f1.f3, .int .i64 x.f1.f4, .int .i64 x.f2.f0, .slice A7 x.f2.f1.length c7, .slice A8 x.f2.f2.length c8, .int .i64 x.f2.f3, .int .i64 x.f2.f4, .int .i64 x.f3.f0, .slice A12 x.f3.f1.length c12, .slice A13 x.f3.f2.length c13, .int .i64 x.f3.f3, .int .i64 x.f3.f4, .int .i64 x.f4.f0, .slice A17 x.f4.f1.length c17, .slice A18 x.f4.f2.length c18, .int .i64 x.f4.f3, .int .i64 x.f4.f4, .slice A21 x.f5.length c21, .int .i64 x.f6.f0, .slice A23 x.f6.f1.length c23, .slice A24 x.f6.f2.length c24, .int .i64 x.f6.f3, .int .i64 x.f6.f4, .int .i64 x.f7.f0, .slice A28 x.f7.f1.length c28, .slice A29 x.f7.f2.length c29, .int .i64 x.f7.f3, .int .i64 x.f7.f4] := ⟨[.slice A0 x.f0.length c0], [.int .i64 x.f1.f0, .slice A2 x.f1.f1.length c2, .slice A3 x.f1.f2.length c3, .int .i64 x.f1.f3, .int .i64 x.f1.f4, .int .i64 x.f2.f0, .slice A7 x.f2.f1.length c7, .slice A8 x.f2.f2.length c8, .int .i64 x.f2.f3, .int .i64 x.f2.f4, .int .i64 x.f3.f0, .slice A12 x.f3.f1.length c12, .slice A13 x.f3.f2.length c13, .int .i64 x.f3.f3, .int .i64 x.f3.f4, .int .i64 x.f4.f0, .slice A17 x.f4.f1.length c17, .slice A18 x.f4.f2.length c18, .int .i64 x.f4.f3, .int .i64 x.f4.f4, .slice A21 x.f5.length c21, .int .i64 x.f6.f0, .slice A23 x.f6.f1.length c23, .slice A24 x.f6.f2.length c24, .int .i64 x.f6.f3, .int .i64 x.f6.f4, .int .i64 x.f7.f0, .slice A28 x.f7.f1.length c28, .slice A29 x.f7.f2.length c29, .int .i64 x.f7.f3, .int .i64 x.f7.f4], rfl, ⟨A0, c0, rfl, l0, g0⟩, ⟨[.int .i64 x.f1.f0, .slice A2 x.f1.f1.length c2, .slice A3 x.f1.f2.length c3, .int .i64 x.f1.f3, .int .i64 x.f1.f4], [.int .i64 x.f2.f0, .slice A7 x.f2.f1.length c7, .slice A8 x.f2.f2.length c8, .int .i64 x.f2.f3, .int .i64 x.f2.f4, .int .i64 x.f3.f0, .slice A12 x.f3.f1.length c12, .slice A13 x.f3.f2.length c13, .int .i64 x.f3.f3, .int .i64 x.f3.f4, .int .i64 x.f4.f0, .slice A17 x.f4.f1.length c17, .slice A18 x.f4.f2.length c18, .int .i64 x.f4.f3, .int .i64 x.f4.f4, .slice A21 x.f5.length c21, .int .i64 x.f6.f0, .slice A23 x.f6.f1.length c23, .slice A24 x.f6.f2.length c24, .int .i64 x.f6.f3, .int .i64 x.f6.f4, .int .i64 x.f7.f0, .slice A28 x.f7.f1.length c28, .slice A29 x.f7.f2.length c29, .int .i64 x.f7.f3, .int .i64 x.f7.f4], rfl, ⟨[.int .i64 x.f1.f0], [.slice A2 x.f1.f1.length c2, .slice A3 x.f1.f2.length c3, .int .i64 x.f1.f3, .int .i64 x.f1.f4], rfl, rfl, ⟨[.slice A2 x.f1.f1.length c2], [.slice A3 x.f1.f2.length c3, .int .i64 x.f1.f3, .int .i64 x.f1.f4], rfl, ⟨A2, c2, rfl, l2, g2⟩, ⟨[.slice A3 x.f1.f2.length c3], [.int .i64 x.f1.f3, .int .i64 x.f1.f4], rfl, ⟨A3, c3, rfl, l3, g3⟩, ⟨[.int .i64 x.f1.f3], [.int .i64 x.f1.f4], rfl, rfl, rfl⟩⟩⟩⟩, ⟨[.int .i64 x.f2.f0, .slice A7 x.f2.f1.length c7, .slice A8 x.f2.f2.length c8, .int .i64 x.f2.f3, .int .i64 x.f2.f4], [.int .i64 x.f3.f0, .slice A12 x.f3.f1.length c12, .slice A13 x.f3.f2.length c13, .int .i64 x.f3.f3, .int .i64 x.f3.f4, .int .i64 x.f4.f0, .slice A17 x.f4.f1.length c17, .slice A18 x.f4.f2.length c18, .int .i64 x.f4.f3, .int .i64 x.f4.f4, .slice A21 x.f5.length c21, .int .i64 x.f6.f0, .slice A23 x.f6.f1.length c23, .slice A24 x.f6.f2.length c24, .int .i64 x.f6.f3, .int .i64 x.f6.f4, .int .i64 x.f7.f0, .slice A28 x.f7.f1.length c28, .slice A29 x.f7.f2.length c29, .int .i64 x.f7.f3, .int .i64 x.f7.f4], rfl, ⟨[.int .i64 x.f2.f0], [.slice A7 x.f2.f1.length c7, .slice A8 x.f2.f2.length c8, .int .i64 x.f2.f3, .int .i64 x.f2.f4], rfl, rfl, ⟨[.slice A7 x.f2.f1.length c7], [.slice A8 x.f2.f2.length c8, .int .i64 x.f2.f3, .int .i64 x.f2.f4], rfl, ⟨A7, c7, rfl, l7, g7⟩, ⟨[.slice A8 x.f2.f2.length c8], [.int .i64 x.f2.f3, .int .i64 x.f2.f4], rfl, ⟨A8, c8, rfl, l8, g8⟩, ⟨[.int .i64 x.f2.f3], [.int .i64 x.f2.f4], rfl, rfl, rfl⟩⟩⟩⟩, ⟨[.int .i64 x.f3.f0, .slice A12 x.f3.f1.length c12, .slice A13 x.f3.f2.length c13, .int .i64 x.f3.f3, .int .i64 x.f3.f4], [.int .i64 x.f4.f0, .slice A17 x.f4.f1.length c17, .slice A18 x.f4.f2.length c18, .int .i64 x.f4.f3, .int .i64 x.f4.f4, .slice A21 x.f5.length c21, .int .i64 x.f6.f0, .slice A23 x.f6.f1.length c23, .slice A24 x.f6.f2.length c24, .int .i64 x.f6.f3, .int .i64 x.f6.f4, .int .i64 x.f7.f0, .slice A28 x.f7.f1.length c28, .slice A29 x.f7.f2.length c29, .int .i64 x.f7.f3, .int .i64 x.f7.f4], rfl, ⟨[.int .i64 x.f3.f0], [.slice A12 x.f3.f1.length c12, .slice A13 x.f3.f2.length c13, .int .i64 x.f3.f3, .int .i64 x.f3.f4], rfl, rfl, ⟨[.slice A12 x.f3.f1.length c12], [.slice A13 x.f3.f2.length c13, .int .i64 x.f3.f3, .int .i64 x.f3.f4], rfl, ⟨A12, c12, rfl, l12, g12⟩, ⟨[.slice A13 x.f3.f2.length c13], [.int .i64 x.f3.f3, .int .i64 x.f3.f4], rfl, ⟨A13, c13, rfl, l13, g13⟩, ⟨[.int .i64 x.f3.f3], [.int .i64 x.f3.f4], rfl, rfl, rfl⟩⟩⟩⟩, ⟨[.int .i64 x.f4.f0, .slice A17 x.f4.f1.length c17, .slice A18 x.f4.f2.length c18, .int .i64 x.f4.f3, .int .i64 x.f4.f4], [.slice A21 x.f5.length c21, .int .i64 x.f6.f0, .slice A23 x.f6.f1.length c23, .slice A24 x.f6.f2.length c24, .int .i64 x.f6.f3, .int .i64 x.f6.f4, .int .i64 x.f7.f0, .slice A28 x.f7.f1.length c28, .slice A29 x.f7.f2.length c29, .int .i64 x.f7.f3, .int .i64 x.f7.f4], rfl, ⟨[.int .i64 x.f4.f0], [.slice A17 x.f4.f1.length c17, .slice A18 x.f4.f2.length c18, .int .i64 x.f4.f3, .int .i64 x.f4.f4], rfl, rfl, ⟨[.slice A17 x.f4.f1.length c17], [.slice A18 x.f4.f2.length c18, .int .i64 x.f4.f3, .int .i64 x.f4.f4], rfl, ⟨A17, c17, rfl, l17, g17⟩, ⟨[.slice A18 x.f4.f2.length c18], [.int .i64 x.f4.f3, .int .i64 x.f4.f4], rfl, ⟨A18, c18, rfl, l18, g18⟩, ⟨[.int .i64 x.f4.f3], [.int .i64 x.f4.f4], rfl, rfl, rfl⟩⟩⟩⟩, ⟨[.slice A21 x.f5.length c21], [.int .i64 x.f6.f0, .slice A23 x.f6.f1.length c23, .slice A24 x.f6.f2.length c24, .int .i64 x.f6.f3, .int .i64 x.f6.f4, .int .i64 x.f7.f0, .slice A28 x.f7.f1.length c28, .slice A29 x.f7.f2.length c29, .int .i64 x.f7.f3, .int .i64 x.f7.f4], rfl, ⟨A21, c21, rfl, l21, g21⟩, ⟨[.int .i64 x.f6.f0, .slice A23 x.f6.f1.length c23, .slice A24 x.f6.f2.length c24, .int .i64 x.f6.f3, .int .i64 x.f6.f4], [.int .i64 x.f7.f0, .slice A28 x.f7.f1.length c28, .slice A29 x.f7.f2.length c29, .int .i64 x.f7.f3, .int .i64 x.f7.f4], rfl, ⟨[.int .i64 x.f6.f0], [.slice A23 x.f6.f1.length c23, .slice A24 x.f6.f2.length c24, .int .i64 x.f6.f3, .int .i64 x.f6.f4], rfl, rfl, ⟨[.slice A23 x.f6.f1.length c23], [.slice A24 x.f6.f2.length c24, .int .i64 x.f6.f3, .int .i64 x.f6.f4], rfl, ⟨A23, c23, rfl, l23, g23⟩, ⟨[.slice A24 x.f6.f2.length c24], [.int .i64 x.f6.f3, .int .i64 x.f6.f4], rfl, ⟨A24, c24, rfl, l24, g24⟩, ⟨[.int .i64 x.f6.f3], [.int .i64 x.f6.f4], rfl, rfl, rfl⟩⟩⟩⟩, ⟨[.int .i64 x.f7.f0], [.slice A28 x.f7.f1.length c28, .slice A29 x.f7.f2.length c29, .int .i64 x.f7.f3, .int .i64 x.f7.f4], rfl, rfl, ⟨[.slice A28 x.f7.f1.length c28], [.slice A29 x.f7.f2.length c29, .int .i64 x.f7.f3, .int .i64 x.f7.f4], rfl, ⟨A28, c28, rfl, l28, g28⟩, ⟨[.slice A29 x.f7.f2.length c29], [.int .i64 x.f7.f3, .int .i64 x.f7.f4], rfl, ⟨A29, c29, rfl, l29, g29⟩, ⟨[.int .i64 x.f7.f3], [.int .i64 x.f7.f4], rfl, rfl, rfl⟩⟩⟩⟩⟩⟩⟩⟩⟩⟩⟩
structure S47 where
  f0 : Int
  f1 : Int
  f2 : Int
  f3 : List S94
  f4 : List (List Int)
  f5 : List S86
  f6 : List Int
  f7 : S44
  f8 : S45
def k47 : Kd S47 := Kd.iso (Kd.pair (Kd.int .i64) (Kd.pair (Kd.int .i64) (Kd.pair (Kd.int .i64) (Kd.pair (Kd.slice 94 k94) (Kd.pair (Kd.slice 28 (Kd.slice 3 (Kd.int .i64))) (Kd.pair (Kd.slice 86 k86) (Kd.pair (Kd.slice 3 (Kd.int .i64)) (Kd.pair k44 k45)))))))) (fun x : S47 => (x.f0, x.f1, x.f2, x.f3, x.f4, x.f5, x.f6, x.f7, x.f8))
theorem k47_mk (w : World) (x : S47) {A3 : Option Addr} {c3 : Nat} (l3 : x.f3.length ≤ c3) (g3 : k94.C w A3 x.f3.length x.f3) {A4 : Option Addr} {c4 : Nat} (l4 : x.f4.length ≤ c4) (g4 : (Kd.slice 3 (Kd.int .i64)).C w A4 x.f4.length x.f4) {A5 : Option Addr} {c5 : Nat} (l5 : x.f5.length ≤ c5) (g5 : k86.C w A5 x.f5.length x.f5) {A6 : Option Addr} {c6 : Nat} (l6 : x.f6.length ≤ c6) (g6 : (Kd.int .i64).C w A6 x.f6.length x.f6) {A8 : Option Addr} {c8 : Nat} (l8 : x.f7.f1.length ≤ c8) (g8 : (Kd.slice 3 (Kd.int .i64)).C w A8 x.f7.f1.length x.f7.f1) {A9 : Option Addr} {c9 : Nat} (l9 : x.f7.f2.length ≤ c9) (g9 : (Kd.slice 3 (Kd.int .i64)).C w A9 x.f7.f2.length x.f7.f2) {A12 : Option Addr} {c12 : Nat} (l12 : x.f8.f0.length ≤ c12) (g12 : (Kd.slice 3 (Kd.int .i64)).C w A12 x.f8.f0.length x.f8.f0) {A13 : Option Addr} {c13 : Nat} (l13 : x.f8.f1.length ≤ c13) (g13 : (Kd.slice 3 (Kd.int .i64)).C w A13 x.f8.f1.length x.f8.f1) : k47.K w x [.int .i64 x.f0, .int .i64 x.f1, .int .i64 x.f2, .slice A3 x.f3.length c3, .slice A4 x.f4.length c4, .slice A5 x.f5.length c5, .slice A6 x.f6.length c6, .int .i64 x.f7.f0, .slice A8 x.f7.f1.length c8, .slice A9 x.f7.f2.length c9, .int .i64 x.f7.f3, .int .i64 x.f7.f4, .slice A12 x.f8.f0.length c12, .slice A13 x.f8.f1.length c13] := ⟨[.int .i64 x.f0], [.int .i64 x.f1, .int .i64 x.f2, .slice A3 x.f3.length c3, .slice A4 x.f4.length c4, .slice A5 x.f5.length c5, .slice A6 x.f6.length c6, .int .i64 x.f7.f0, .slice A8 x.f7.f1.length c8, .slice A9 x.f7.f2.length c9, .int .i64 x.f7.f3, .int .i64 x.f7.f4, .slice A12 x.f8.f0.length c12, .slice A13 x.f8.f1.length c13], rfl, rfl, ⟨[.int .i64 x.f1], [.int .i64 x.f2, .slice A3 x.f3.length c3, .slice A4 x.f4.length c4, .slice A5 x.f5.length c5, .slice A6 x.f6.length c6, .int .i64 x.f7.f0, .slice A8 x.f7.f1.length c8, .slice A9 x.f7.f2.length c9, .int .i64 x.f7.f3, .int .i64 x.f7.f4, .slice A12 x.f8.f0.length c12, .slice A13 x.f8.f1.length c13], rfl, rfl, ⟨[.int .i64 x.f2], [.slice A3 x.f3.length c3, .slice A4 x.f4.length c4, .slice A5 x.f5.length c5, .slice A6 x.f6.length c6, .int .i64 x.f7.f0, .slice A8 x.f7.f1.length c8, .slice A9 x.f7.f2.length c9, .int .i64 x.f7.f3, .int .i64 x.f7.f4, .slice A12 x.f8.f0.length c12, .slice A13 x.f8.f1.length c13], rfl, rfl, ⟨[.slice A3 x.f3.length c3], [.slice A4 x.f4.length c4, .slice A5 x.f5.length c5, .slice A6 x.f6.length c6, .int .i64 x.f7.f0, .slice A8 x.f7.f1.length c8, .slice A9 x.f7.f2.length c9, .int .i64 x.f7.f3, .int .i64 x.f7.f4, .slice A12 x.f8.f0.length c12, .slice A13 x.f8.f1.length c13], rfl, ⟨A3, c3, rfl, l3, g3⟩, ⟨[.slice A4 x.f4.length c4], [.slice A5 x.f5.length c5, .slice A6 x.f6.length c6, .int .i64 x.f7.f0, .slice A8 x.f7.f1.length c8, .slice A9 x.f7.f2.length c9, .int .i64 x.f7.f3, .int .i64 x.f7.f4, .slice A12 x.f8.f0.length c12, .slice A13 x.f8.f1.length c13], rfl, ⟨A4, c4, rfl, l4, g4⟩, ⟨[.slice A5 x.f5.length c5], [.slice A6 x.f6.length c6, .int .i64 x.f7.f0, .slice A8 x.f7.f1.length c8, .slice A9 x.f7.f2.length c9, .int .i64 x.f7.f3, .int .i64 x.f7.f4, .slice A12 x.f8.f0.length c12, .slice A13 x.f8.f1.length c13], rfl, ⟨A5, c5, rfl, l5, g5⟩, ⟨[.slice A6 x.f6.length c6], [.int .i64 x.f7.f0, .slice A8 x.f7.f1.length c8, .slice A9 x.f7.f2.length c9, .int .i64 x.f7.f3, .int .i64 x.f7.f4, .slice A12 x.f8.f0.length c12, .slice A13 x.f8.f1.length c13], rfl, ⟨A6, c6, rfl, l6, g6⟩, ⟨[.int .i64 x.f7.f0, .slice A8 x.f7.f1.length c8, .slice A9 x.f7.f2.length c9, .int .i64 x.f7.f3, .int .i64 x.f7.f4], [.slice A12 x.f8.f0.length c12, .slice A13 x.f8.f1.length c13], rfl, ⟨[.int .i64 x.f7.f0], [.slice A8 x.f7.f1.length c8, .slice A9 x.f7.f2.length c9, .int .i64 x.f7.f3, .int .i64 x.f7.f4], rfl, rfl, ⟨[.slice A8 x.f7.f1.length c8], [.slice A9 x.f7.f2.length c9, .int .i64 x.f7.f3, .int .i64 x.f7.f4], rfl, ⟨A8, c8, rfl, l8, g8⟩, ⟨[.slice A9 x.f7.f2.length c9], [.int .i64 x.f7.f3, .int .i64 x.f7.f4], rfl, ⟨A9, c9, rfl, l9, g9⟩, ⟨[.int .i64 x.f7.f3], [.int .i64 x.f7.f4], rfl, rfl, rfl⟩⟩⟩⟩, ⟨[.slice A12 x.f8.f0.length c12], [.slice A13 x.f8.f1.length c13], rfl, ⟨A12, c12, rfl, l12, g12⟩, ⟨A13, c13, rfl, l13, g13⟩⟩⟩⟩⟩⟩⟩⟩⟩⟩
theorem h107 : Kd.Heap k107 := Kd.heap_iso _ (Kd.heap_pair (Kd.heap_int _) (Kd.heap_slice _ (Kd.heap_int _)))
def o24 : S24 := ⟨[], []⟩
def o30 : S30 := ⟨0, [], [], 0, 0⟩
theorem h30 : Kd.Heap k30 := Kd.heap_iso _ (Kd.heap_pair (Kd.heap_int _) (Kd.heap_pair (Kd.heap_slice _ (Kd.heap_slice _ (Kd.heap_int _))) (Kd.heap_pair (Kd.heap_slice _ (Kd.heap_slice _ (Kd.heap_int _))) (Kd.heap_pair (Kd.heap_int _) (Kd.heap_int _)))))
theorem h32 : Kd.Heap k32 := Kd.heap_iso _ (Kd.heap_pair (Kd.heap_slice _ (Kd.heap_slice _ (Kd.heap_int _))) (Kd.heap_slice _ (Kd.heap_slice _ (Kd.heap_int _))))
def o96 : S96 := ⟨0, 0⟩
theorem h96 : Kd.Heap k96 := Kd.heap_iso _ (Kd.heap_pair (Kd.heap_int _) (Kd.heap_int _))
def o78 : S78 := ⟨[], o30, o30, o30, o30, [], o30, o30⟩
theorem h78 : Kd.Heap k78 := Kd.heap_iso _ (Kd.heap_pair (Kd.heap_slice _ (Kd.heap_int _)) (Kd.heap_pair h30 (Kd.heap_pair h30 (Kd.heap_pair h30 (Kd.heap_pair h30 (Kd.heap_pair (Kd.heap_slice _ (Kd.heap_int _)) (Kd.heap_pair h30 h30)))))))
theorem h34 : Kd.Heap k34 := Kd.heap_iso _ (Kd.heap_pair (Kd.heap_int _) (Kd.heap_pair (Kd.heap_int _) (Kd.heap_pair (Kd.heap_int _) (Kd.heap_pair (Kd.heap_slice _ h96) (Kd.heap_pair (Kd.heap_slice _ (Kd.heap_slice _ (Kd.heap_int _))) (Kd.heap_pair (Kd.heap_slice _ h78) (Kd.heap_pair (Kd.heap_slice _ (Kd.heap_int _)) (Kd.heap_pair h30 h32))))))))
def o111 : S111 := ⟨0, []⟩
theorem h111 : Kd.Heap k111 := Kd.heap_iso _ (Kd.heap_pair (Kd.heap_int _) (Kd.heap_slice _ (Kd.heap_int _)))
def o40 : S40 := ⟨[], []⟩
def o44 : S44 := ⟨0, [], [], 0, 0⟩
theorem h44 : Kd.Heap k44 := Kd.heap_iso _ (Kd.heap_pair (Kd.heap_int _) (Kd.heap_pair (Kd.heap_slice _ (Kd.heap_slice _ (Kd.heap_int _))) (Kd.heap_pair (Kd.heap_slice _ (Kd.heap_slice _ (Kd.heap_int _))) (Kd.heap_pair (Kd.heap_int _) (Kd.heap_int _)))))
theorem h45 : Kd.Heap k45 := Kd.heap_iso _ (Kd.heap_pair (Kd.heap_slice _ (Kd.heap_slice _ (Kd.heap_int _))) (Kd.heap_slice _ (Kd.heap_slice _ (Kd.heap_int _))))
def o94 : S94 := ⟨0, 0⟩
theorem h94 : Kd.Heap k94 := Kd.heap_iso _ (Kd.heap_pair (Kd.heap_int _) (Kd.heap_int _))
def o86 : S86 := ⟨[], o44, o44, o44, o44, [], o44, o44⟩
theorem h86 : Kd.Heap k86 := Kd.heap_iso _ (Kd.heap_pair (Kd.heap_slice _ (Kd.heap_int _)) (Kd.heap_pair h44 (Kd.heap_pair h44 (Kd.heap_pair h44 (Kd.heap_pair h44 (Kd.heap_pair (Kd.heap_slice _ (Kd.heap_int _)) (Kd.heap_pair h44 h44)))))))
theorem h47 : Kd.Heap k47 := Kd.heap_iso _ (Kd.heap_pair (Kd.heap_int _) (Kd.heap_pair (Kd.heap_int _) (Kd.heap_pair (Kd.heap_int _) (Kd.heap_pair (Kd.heap_slice _ h94) (Kd.heap_pair (Kd.heap_slice _ (Kd.heap_slice _ (Kd.heap_int _))) (Kd.heap_pair (Kd.heap_slice _ h86) (Kd.heap_pair (Kd.heap_slice _ (Kd.heap_int _)) (Kd.heap_pair h44 h45))))))))
theorem at34_0 {w : World} {x : S34} {cs : List Value} (h : AtK k34 w x cs 0) : AtK (Kd.int .i64) w x.f0 cs 0 := h.iso.fst
theorem at34_1 {w : World} {x : S34} {cs : List Value} (h : AtK k34 w x cs 0) : AtK (Kd.int .i64) w x.f1 cs 1 := (h.iso.snd rfl).fst
theorem at34_2 {w : World} {x : S34} {cs : List Value} (h : AtK k34 w x cs 0) : AtK (Kd.int .i64) w x.f2 cs 2 := ((h.iso.snd rfl).snd rfl).fst
theorem at34_3 {w : World} {x : S34} {cs : List Value} (h : AtK k34 w x cs 0) : AtK (Kd.slice 96 k96) w x.f3 cs 3 := (((h.iso.snd rfl).snd rfl).snd rfl).fst
theorem at34_4 {w : World} {x : S34} {cs : List Value} (h : AtK k34 w x cs 0) : AtK (Kd.slice 28 (Kd.slice 3 (Kd.int .i64))) w x.f4 cs 4 := ((((h.iso.snd rfl).snd rfl).snd rfl).snd rfl).fst
theorem at34_5 {w : World} {x : S34} {cs : List Value} (h : AtK k34 w x cs 0) : AtK (Kd.slice 78 k78) w x.f5 cs 5 := (((((h.iso.snd rfl).snd rfl).snd rfl).snd rfl).snd rfl).fst
theorem at34_6 {w : World} {x : S34} {cs : List Value} (h : AtK k34 w x cs 0) : AtK (Kd.slice 3 (Kd.int .i64)) w x.f6 cs 6 := ((((((h.iso.snd rfl).snd rfl).snd rfl).snd rfl).snd rfl).snd rfl).fst
theorem at34_7 {w : World} {x : S34} {cs : List Value} (h : AtK k34 w x cs 0) : AtK (Kd.int .i64) w x.f7.f0 cs 7 := (((((((h.iso.snd rfl).snd rfl).snd rfl).snd rfl).snd rfl).snd rfl).snd rfl).fst.iso.fst
theorem at34_8 {w : World} {x : S34} {cs : List Value} (h : AtK k34 w x cs 0) : AtK (Kd.slice 28 (Kd.slice 3 (Kd.int .i64))) w x.f7.f1 cs 8 := ((((((((h.iso.snd rfl).snd rfl).snd rfl).snd rfl).snd rfl).snd rfl).snd rfl).fst.iso.snd rfl).fst
theorem at34_9 {w : World} {x : S34} {cs : List Value} (h : AtK k34 w x cs 0) : AtK (Kd.slice 28 (Kd.slice 3 (Kd.int .i64))) w x.f7.f2 cs 9 := (((((((((h.iso.snd rfl).snd rfl).snd rfl).snd rfl).snd rfl).snd rfl).snd rfl).fst.iso.snd rfl).snd rfl).fst
theorem at34_10 {w : World} {x : S34} {cs : List Value} (h : AtK k34 w x cs 0) : AtK (Kd.int .i64) w x.f7.f3 cs 10 := ((((((((((h.iso.snd rfl).snd rfl).snd rfl).snd rfl).snd rfl).snd rfl).snd rfl).fst.iso.snd rfl).snd rfl).snd rfl).fst
theorem at34_11 {w : World} {x : S34} {cs : List Value} (h : AtK k34 w x cs 0) : AtK (Kd.int .i64) w x.f7.f4 cs 11 := (((((((((((h.iso.snd rfl).snd rfl).snd rfl).snd rfl).snd rfl).snd rfl).snd rfl).fst.iso.snd rfl).snd rfl).snd rfl).snd rfl)
theorem at34_12 {w : World} {x : S34} {cs : List Value} (h : AtK k34 w x cs 0) : AtK (Kd.slice 28 (Kd.slice 3 (Kd.int .i64))) w x.f8.f0 cs 12 := ((((((((h.iso.snd rfl).snd rfl).snd rfl).snd rfl).snd rfl).snd rfl).snd rfl).snd rfl).iso.fst
theorem at34_13 {w : World} {x : S34} {cs : List Value} (h : AtK k34 w x cs 0) : AtK (Kd.slice 28 (Kd.slice 3 (Kd.int .i64))) w x.f8.f1 cs 13 := (((((((((h.iso.snd rfl).snd rfl).snd rfl).snd rfl).snd rfl).snd rfl).snd rfl).snd rfl).iso.snd rfl)
theorem at44_0 {w : World} {x : S44} {cs : List Value} (h : AtK k44 w x cs 0) : AtK (Kd.int .i64) w x.f0 cs 0 := h.iso.fst
theorem at44_1 {w : World} {x : S44} {cs : List Value} (h : AtK k44 w x cs 0) : AtK (Kd.slice 28 (Kd.slice 3 (Kd.int .i64))) w x.f1 cs 1 := (h.iso.snd rfl).fst
theorem at44_2 {w : World} {x : S44} {cs : List Value} (h : AtK k44 w x cs 0) : AtK (Kd.slice 28 (Kd.slice 3 (Kd.int .i64))) w x.f2 cs 2 := ((h.iso.snd rfl).snd rfl).fst
theorem at44_3 {w : World} {x : S44} {cs : List Value} (h : AtK k44 w x cs 0) : AtK (Kd.int .i64) w x.f3 cs 3 := (((h.iso.snd rfl).snd rfl).snd rfl).fst
theorem at44_4 {w : World} {x : S44} {cs : List Value} (h : AtK k44 w x cs 0) : AtK (Kd.int .i64) w x.f4 cs 4 := ((((h.iso.snd rfl).snd rfl).snd rfl).snd rfl)
theorem at47_0 {w : World} {x : S47} {cs : List Value} (h : AtK k47 w x cs 0) : AtK (Kd.int .i64) w x.f0 cs 0 := h.iso.fst
theorem at47_1 {w : World} {x : S47} {cs : List Value} (h : AtK k47 w x cs 0) : AtK (Kd.int .i64) w x.f1 cs 1 := (h.iso.snd rfl).fst
theorem at47_2 {w : World} {x : S47} {cs : List Value} (h : AtK k47 w x cs 0) : AtK (Kd.int .i64) w x.f2 cs 2 := ((h.iso.snd rfl).snd rfl).fst
theorem at47_3 {w : World} {x : S47} {cs : List Value} (h : AtK k47 w x cs 0) : AtK (Kd.slice 94 k94) w x.f3 cs 3 := (((h.iso.snd rfl).snd rfl).snd rfl).fst
theorem at47_4 {w : World} {x : S47} {cs : List Value} (h : AtK k47 w x cs 0) : AtK (Kd.slice 28 (Kd.slice 3 (Kd.int .i64))) w x.f4 cs 4 := ((((h.iso.snd rfl).snd rfl).snd rfl).snd rfl).fst
theorem at47_5 {w : World} {x : S47} {cs : List Value} (h : AtK k47 w x cs 0) : AtK (Kd.slice 86 k86) w x.f5 cs 5 := (((((h.iso.snd rfl).snd rfl).snd rfl).snd rfl).snd rfl).fst
theorem at47_6 {w : World} {x : S47} {cs : List Value} (h : AtK k47 w x cs 0) : AtK (Kd.slice 3 (Kd.int .i64)) w x.f6 cs 6 := ((((((h.iso.snd rfl).snd rfl).snd rfl).snd rfl).snd rfl).snd rfl).fst
theorem at47_7 {w : World} {x : S47} {cs : List Value} (h : AtK k47 w x cs 0) : AtK (Kd.int .i64) w x.f7.f0 cs 7 := (((((((h.iso.snd rfl).snd rfl).snd rfl).snd rfl).snd rfl).snd rfl).snd rfl).fst.iso.fst
theorem at47_8 {w : World} {x : S47} {cs : List Value} (h : AtK k47 w x cs 0) : AtK (Kd.slice 28 (Kd.slice 3 (Kd.int .i64))) w x.f7.f1 cs 8 := ((((((((h.iso.snd rfl).snd rfl).snd rfl).snd rfl).snd rfl).snd rfl).snd rfl).fst.iso.snd rfl).fst
theorem at47_9 {w : World} {x : S47} {cs : List Value} (h : AtK k47 w x cs 0) : AtK (Kd.slice 28 (Kd.slice 3 (Kd.int .i64))) w x.f7.f2 cs 9 := (((((((((h.iso.snd rfl).snd rfl).snd rfl).snd rfl).snd rfl).snd rfl).snd rfl).fst.iso.snd rfl).snd rfl).fst
theorem at47_10 {w : World} {x : S47} {cs : List Value} (h : AtK k47 w x cs 0) : AtK (Kd.int .i64) w x.f7.f3 cs 10 := ((((((((((h.iso.snd rfl).snd rfl).snd rfl).snd rfl).snd rfl).snd rfl).snd rfl).fst.iso.snd rfl).snd rfl).snd rfl).fst
theorem at47_11 {w : World} {x : S47} {cs : List Value} (h : AtK k47 w x cs 0) : AtK (Kd.int .i64) w x.f7.f4 cs 11 := (((((((((((h.iso.snd rfl).snd rfl).snd rfl).snd rfl).snd rfl).snd rfl).snd rfl).fst.iso.snd rfl).snd rfl).snd rfl).snd rfl)
theorem at47_12 {w : World} {x : S47} {cs : List Value} (h : AtK k47 w x cs 0) : AtK (Kd.slice 28 (Kd.slice 3 (Kd.int .i64))) w x.f8.f0 cs 12 := ((((((((h.iso.snd rfl).snd rfl).snd rfl).snd rfl).snd rfl).snd rfl).snd rfl).snd rfl).iso.fst
theorem at47_13 {w : World} {x : S47} {cs : List Value} (h : AtK k47 w x cs 0) : AtK (Kd.slice 28 (Kd.slice 3 (Kd.int .i64))) w x.f8.f1 cs 13 := (((((((((h.iso.snd rfl).snd rfl).snd rfl).snd rfl).snd rfl).snd rfl).snd rfl).snd rfl).iso.snd rfl)
theorem at78_0 {w : World} {x : S78} {cs : List Value} (h : AtK k78 w x cs 0) : AtK (Kd.slice 3 (Kd.int .i64)) w x.f0 cs 0 := h.iso.fst
theorem at78_1 {w : World} {x : S78} {cs : List Value} (h : AtK k78 w x cs 0) : AtK (Kd.int .i64) w x.f1.f0 cs 1 := (h.iso.snd rfl).fst.iso.fst
theorem at78_2 {w : World} {x : S78} {cs : List Value} (h : AtK k78 w x cs 0) : AtK (Kd.slice 28 (Kd.slice 3 (Kd.int .i64))) w x.f1.f1 cs 2 := ((h.iso.snd rfl).fst.iso.snd rfl).fst
theorem at78_3 {w : World} {x : S78} {cs : List Value} (h : AtK k78 w x cs 0) : AtK (Kd.slice 28 (Kd.slice 3 (Kd.int .i64))) w x.f1.f2 cs 3 := (((h.iso.snd rfl).fst.iso.snd rfl).snd rfl).fst
theorem at78_4 {w : World} {x : S78} {cs : List Value} (h : AtK k78 w x cs 0) : AtK (Kd.int .i64) w x.f1.f3 cs 4 := ((((h.iso.snd rfl).fst.iso.snd rfl).snd rfl).snd rfl).fst
theorem at78_5 {w : World} {x : S78} {cs : List Value} (h : AtK k78 w x cs 0) : AtK (Kd.int .i64) w x.f1.f4 cs 5 := (((((h.iso.snd rfl).fst.iso.snd rfl).snd rfl).snd rfl).snd rfl)
theorem at78_6 {w : World} {x : S78} {cs : List Value} (h : AtK k78 w x cs 0) : AtK (Kd.int .i64) w x.f2.f0 cs 6 := ((h.iso.snd rfl).snd rfl).fst.iso.fst
theorem at78_7 {w : World} {x : S78} {cs : List Value} (h : AtK k78 w x cs 0) : AtK (Kd.slice 28 (Kd.slice 3 (Kd.int .i64))) w x.f2.f1 cs 7 := (((h.iso.snd rfl).snd rfl).fst.iso.snd rfl).fst
theorem at78_8 {w : World} {x : S78} {cs : List Value} (h : AtK k78 w x cs 0) : AtK (Kd.slice 28 (Kd.slice 3 (Kd.int .i64))) w x.f2.f2 cs 8 := ((((h.iso.snd rfl).snd rfl).fst.iso.snd rfl).snd rfl).fst
theorem at78_9 {w : World} {x : S78} {cs : List Value} (h : AtK k78 w x cs 0) : AtK (Kd.int .i64) w x.f2.f3 cs 9 := (((((h.iso.snd rfl).snd rfl).fst.iso.snd rfl).snd rfl).snd rfl).fst
theorem at78_10 {w : World} {x : S78} {cs : List Value} (h : AtK k78 w x cs 0) : AtK (Kd.int .i64) w x.f2.f4 cs 10 := ((((((h.iso.snd rfl).snd rfl).fst.iso.snd rfl).snd rfl).snd rfl).snd rfl)
theorem at78_11 {w : World} {x : S78} {cs : List Value} (h : AtK k78 w x cs 0) : AtK (Kd.int .i64) w x.f3.f0 cs 11 := (((h.iso.snd rfl).snd rfl).snd rfl).fst.iso.fst
theorem at78_12 {w : World} {x : S78} {cs : List Value} (h : AtK k78 w x cs 0) : AtK (Kd.slice 28 (Kd.slice 3 (Kd.int .i64))) w x.f3.f1 cs 12 := ((((h.iso.snd rfl).snd rfl).snd rfl).fst.iso.snd rfl).fst
theorem at78_13 {w : World} {x : S78} {cs : List Value} (h : AtK k78 w x cs 0) : AtK (Kd.slice 28 (Kd.slice 3 (Kd.int .i64))) w x.f3.f2 cs 13 := (((((h.iso.snd rfl).snd rfl).snd rfl).fst.iso.snd rfl).snd rfl).fst
theorem at78_14 {w : World} {x : S78} {cs : List Value} (h : AtK k78 w x cs 0) : AtK (Kd.int .i64) w x.f3.f3 cs 14 := ((((((h.iso.snd rfl).snd rfl).snd rfl).fst.iso.snd rfl).snd rfl).snd rfl).fst
theorem at78_15 {w : World} {x : S78} {cs : List Value} (h : AtK k78 w x cs 0) : AtK (Kd.int .i64) w x.f3.f4 cs 15 := (((((((h.iso.snd rfl).snd rfl).snd rfl).fst.iso.snd rfl).snd rfl).snd rfl).snd rfl)
theorem at78_16 {w : World} {x : S78} {cs : List Value} (h : AtK k78 w x cs 0) : AtK (Kd.int .i64) w x.f4.f0 cs 16 := ((((h.iso.snd rfl).snd rfl).snd rfl).snd rfl).fst.iso.fst
theorem at78_17 {w : World} {x : S78} {cs : List Value} (h : AtK k78 w x cs 0) : AtK (Kd.slice 28 (Kd.slice 3 (Kd.int .i64))) w x.f4.f1 cs 17 := (((((h.iso.snd rfl).snd rfl).snd rfl).snd rfl).fst.iso.snd rfl).fst
theorem at78_18 {w : World} {x : S78} {cs : List Value} (h : AtK k78 w x cs 0) : AtK (Kd.slice 28 (Kd.slice 3 (Kd.int .i64))) w x.f4.f2 cs 18 := ((((((h.iso.snd rfl).snd rfl).snd rfl).snd rfl).fst.iso.snd rfl).snd rfl).fst
theorem at78_19 {w : World} {x : S78} {cs : List Value} (h : AtK k78 w x cs 0) : AtK (Kd.int .i64) w x.f4.f3 cs 19 := (((((((h.iso.snd rfl).snd rfl).snd rfl).snd rfl).fst.iso.snd rfl).snd rfl).snd rfl).fst
theorem at78_20 {w : World} {x : S78} {cs : List Value} (h : AtK k78 w x cs 0) : AtK (Kd.int .i64) w x.f4.f4 cs 20 := ((((((((h.iso.snd rfl).snd rfl).snd rfl).snd rfl).fst.iso.snd rfl).snd rfl).snd rfl).snd rfl)
theorem at78_21 {w : World} {x : S78} {cs : List Value} (h : AtK k78 w x cs 0) : AtK (Kd.slice 3 (Kd.int .i64)) w x.f5 cs 21 := (((((h.iso.snd rfl).snd rfl).snd rfl).snd rfl).snd rfl).fst
theorem at78_22 {w : World} {x : S78} {cs : List Value} (h : AtK k78 w x cs 0) : AtK (Kd.int .i64) w x.f6.f0 cs 22 := ((((((h.iso.snd rfl).snd rfl).snd rfl).snd rfl).snd rfl).snd rfl).fst.iso.fst
theorem at78_23 {w : World} {x : S78} {cs : List Value} (h : AtK k78 w x cs 0) : AtK (Kd.slice 28 (Kd.slice 3 (Kd.int .i64))) w x.f6.f1 cs 23 := (((((((h.iso.snd rfl).snd rfl).snd rfl).snd rfl).snd rfl).snd rfl).fst.iso.snd rfl).fst
theorem at78_24 {w : World} {x : S78} {cs : List Value} (h : AtK k78 w x cs 0) : AtK (Kd.slice 28 (Kd.slice 3 (Kd.int .i64))) w x.f6.f2 cs 24 := ((((((((h.iso.snd rfl).snd rfl).snd rfl).snd rfl).snd rfl).snd rfl).fst.iso.snd rfl).snd rfl).fst
theorem at78_25 {w : World} {x : S78} {cs : List Value} (h : AtK k78 w x cs 0) : AtK (Kd.int .i64) w x.f6.f3 cs 25 := (((((((((h.iso.snd rfl).snd rfl).snd rfl).snd rfl).snd rfl).snd rfl).fst.iso.snd rfl).snd rfl).snd rfl).fst
theorem at78_26 {w : World} {x : S78} {cs : List Value} (h : AtK k78 w x cs 0) : AtK (Kd.int .i64) w x.f6.f4 cs 26 := ((((((((((h.iso.snd rfl).snd rfl).snd rfl).snd rfl).snd rfl).snd rfl).fst.iso.snd rfl).snd rfl).snd rfl).snd rfl)
theorem at78_27 {w : World} {x : S78} {cs : List Value} (h : AtK k78 w x cs 0) : AtK (Kd.int .i64) w x.f7.f0 cs 27 := (((((((h.iso.snd rfl).snd rfl).snd rfl).snd rfl).snd rfl).snd rfl).snd rfl).iso.fst
theorem at78_28 {w : World} {x : S78} {cs : List Value} (h : AtK k78 w x cs 0) : AtK (Kd.slice 28 (Kd.slice 3 (Kd.int .i64))) w x.f7.f1 cs 28 := ((((((((h.iso.snd rfl).snd rfl).snd rfl).snd rfl).snd rfl).snd rfl).snd rfl).iso.snd rfl).fst
theorem at78_29 {w : World} {x : S78} {cs : List Value} (h : AtK k78 w x cs 0) : AtK (Kd.slice 28 (Kd.slice 3 (Kd.int .i64))) w x.f7.f2 cs 29 := (((((((((h.iso.snd rfl).snd rfl).snd rfl).snd rfl).snd rfl).snd rfl).snd rfl).iso.snd rfl).snd rfl).fst
theorem at78_30 {w : World} {x : S78} {cs : List Value} (h : AtK k78 w x cs 0) : AtK (Kd.int .i64) w x.f7.f3 cs 30 := ((((((((((h.iso.snd rfl).snd rfl).snd rfl).snd rfl).snd rfl).snd rfl).snd rfl).iso.snd rfl).snd rfl).snd rfl).fst
theorem at78_31 {w : World} {x : S78} {cs : List Value} (h : AtK k78 w x cs 0) : AtK (Kd.int .i64) w x.f7.f4 cs 31 := (((((((((((h.iso.snd rfl).snd rfl).snd rfl).snd rfl).snd rfl).snd rfl).snd rfl).iso.snd rfl).snd rfl).snd rfl).snd rfl)
theorem at86_0 {w : World} {x : S86} {cs : List Value} (h : AtK k86 w x cs 0) : AtK (Kd.slice 3 (Kd.int .i64)) w x.f0 cs 0 := h.iso.fst
theorem at86_1 {w : World} {x : S86} {cs : List Value} (h : AtK k86 w x cs 0) : AtK (Kd.int .i64) w x.f1.f0 cs 1 := (h.iso.snd rfl).fst.iso.fst
theorem at86_2 {w : World} {x : S86} {cs : List Value} (h : AtK k86 w x cs 0) : AtK (Kd.slice 28 (Kd.slice 3 (Kd.int .i64))) w x.f1.f1 cs 2 := ((h.iso.snd rfl).fst.iso.snd rfl).fst
theorem at86_3 {w : World} {x : S86} {cs : List Value} (h : AtK k86 w x cs 0) : AtK (Kd.slice 28 (Kd.slice 3 (Kd.int .i64))) w x.f1.f2 cs 3 := (((h.iso.snd rfl).fst.iso.snd rfl).snd rfl).fst
theorem at86_4 {w : World} {x : S86} {cs : List Value} (h : AtK k86 w x cs 0) : AtK (Kd.int .i64) w x.f1.f3 cs 4 := ((((h.iso.snd rfl).fst.iso.snd rfl).snd rfl).snd rfl).fst
theorem at86_5 {w : World} {x : S86} {cs : List Value} (h : AtK k86 w x cs 0) : AtK (Kd.int .i64) w x.f1.f4 cs 5 := (((((h.iso.snd rfl).fst.iso.snd rfl).snd rfl).snd rfl).snd rfl)
theorem at86_6 {w : World} {x : S86} {cs : List Value} (h : AtK k86 w x cs 0) : AtK (Kd.int .i64) w x.f2.f0 cs 6 := ((h.iso.snd rfl).snd rfl).fst.iso.fst
theorem at86_7 {w : World} {x : S86} {cs : List Value} (h : AtK k86 w x cs 0) : AtK (Kd.slice 28 (Kd.slice 3 (Kd.int .i64))) w x.f2.f1 cs 7 := (((h.iso.snd rfl).snd rfl).fst.iso.snd rfl).fst
theorem at86_8 {w : World} {x : S86} {cs : List Value} (h : AtK k86 w x cs 0) : AtK (Kd.slice 28 (Kd.slice 3 (Kd.int .i64))) w x.f2.f2 cs 8 := ((((h.iso.snd rfl).snd rfl).fst.iso.snd rfl).snd rfl).fst
theorem at86_9 {w : World} {x : S86} {cs : List Value} (h : AtK k86 w x cs 0) : AtK (Kd.int .i64) w x.f2.f3 cs 9 := (((((h.iso.snd rfl).snd rfl).fst.iso.snd rfl).snd rfl).snd rfl).fst
theorem at86_10 {w : World} {x : S86} {cs : List Value} (h : AtK k86 w x cs 0) : AtK (Kd.int .i64) w x.f2.f4 cs 10 := ((((((h.iso.snd rfl).snd rfl).fst.iso.snd rfl).snd rfl).snd rfl).snd rfl)
theorem at86_11 {w : World} {x : S86} {cs : List Value} (h : AtK k86 w x cs 0) : AtK (Kd.int .i64) w x.f3.f0 cs 11 := (((h.iso.snd rfl).snd rfl).snd rfl).fst.iso.fst
theorem at86_12 {w : World} {x : S86} {cs : List Value} (h : AtK k86 w x cs 0) : AtK (Kd.slice 28 (Kd.slice 3 (Kd.int .i64))) w x.f3.f1 cs 12 := ((((h.iso.snd rfl).snd rfl).snd rfl).fst.iso.snd rfl).fst
theorem at86_13 {w : World} {x : S86} {cs : List Value} (h : AtK k86 w x cs 0) : AtK (Kd.slice 28 (Kd.slice 3 (Kd.int .i64))) w x.f3.f2 cs 13 := (((((h.iso.snd rfl).snd rfl).snd rfl).fst.iso.snd rfl).snd rfl).fst
theorem at86_14 {w : World} {x : S86} {cs : List Value} (h : AtK k86 w x cs 0) : AtK (Kd.int .i64) w x.f3.f3 cs 14 := ((((((h.iso.snd rfl).snd rfl).snd rfl).fst.iso.snd rfl).snd rfl).snd rfl).fst
theorem at86_15 {w : World} {x : S86} {cs : List Value} (h : AtK k86 w x cs 0) : AtK (Kd.int .i64) w x.f3.f4 cs 15 := (((((((h.iso.snd rfl).snd rfl).snd rfl).fst.iso.snd rfl).snd rfl).snd rfl).snd rfl)
theorem at86_16 {w : World} {x : S86} {cs : List Value} (h : AtK k86 w x cs 0) : AtK (Kd.int .i64) w x.f4.f0 cs 16 := ((((h.iso.snd rfl).snd rfl).snd rfl).snd rfl).fst.iso.fst
theorem at86_17 {w : World} {x : S86} {cs : List Value} (h : AtK k86 w x cs 0) : AtK (Kd.slice 28 (Kd.slice 3 (Kd.int .i64))) w x.f4.f1 cs 17 := (((((h.iso.snd rfl).snd rfl).snd rfl).snd rfl).fst.iso.snd rfl).fst
theorem at86_18 {w : World} {x : S86} {cs : List Value} (h : AtK k86 w x cs 0) : AtK (Kd.slice 28 (Kd.slice 3 (Kd.int .i64))) w x.f4.f2 cs 18 := ((((((h.iso.snd rfl).snd rfl).snd rfl).snd rfl).fst.iso.snd rfl).snd rfl).fst
theorem at86_19 {w : World} {x : S86} {cs : List Value} (h : AtK k86 w x cs 0) : AtK (Kd.int .i64) w x.f4.f3 cs 19 := (((((((h.iso.snd rfl).snd rfl).snd rfl).snd rfl).fst.iso.snd rfl).snd rfl).snd rfl).fst
theorem at86_20 {w : World} {x : S86} {cs : List Value} (h : AtK k86 w x cs 0) : AtK (Kd.int .i64) w x.f4.f4 cs 20 := ((((((((h.iso.snd rfl).snd rfl).snd rfl).snd rfl).fst.iso.snd rfl).snd rfl).snd rfl).snd rfl)
theorem at86_21 {w : World} {x : S86} {cs : List Value} (h : AtK k86 w x cs 0) : AtK (Kd.slice 3 (Kd.int .i64)) w x.f5 cs 21 := (((((h.iso.snd rfl).snd rfl).snd rfl).snd rfl).snd rfl).fst
theorem at86_22 {w : World} {x : S86} {cs : List Value} (h : AtK k86 w x cs 0) : AtK (Kd.int .i64) w x.f6.f0 cs 22 := ((((((h.iso.snd rfl).snd rfl).snd rfl).snd rfl).snd rfl).snd rfl).fst.iso.fst
theorem at86_23 {w : World} {x : S86} {cs : List Value} (h : AtK k86 w x cs 0) : AtK (Kd.slice 28 (Kd.slice 3 (Kd.int .i64))) w x.f6.f1 cs 23 := (((((((h.iso.snd rfl).snd rfl).snd rfl).snd rfl).snd rfl).snd rfl).fst.iso.snd rfl).fst
theorem at86_24 {w : World} {x : S86} {cs : List Value} (h : AtK k86 w x cs 0) : AtK (Kd.slice 28 (Kd.slice 3 (Kd.int .i64))) w x.f6.f2 cs 24 := ((((((((h.iso.snd rfl).snd rfl).snd rfl).snd rfl).snd rfl).snd rfl).fst.iso.snd rfl).snd rfl).fst
theorem at86_25 {w : World} {x : S86} {cs : List Value} (h : AtK k86 w x cs 0) : AtK (Kd.int .i64) w x.f6.f3 cs 25 := (((((((((h.iso.snd rfl).snd rfl).snd rfl).snd rfl).snd rfl).snd rfl).fst.iso.snd rfl).snd rfl).snd rfl).fst
theorem at86_26 {w : World} {x : S86} {cs : List Value} (h : AtK k86 w x cs 0) : AtK (Kd.int .i64) w x.f6.f4 cs 26 := ((((((((((h.iso.snd rfl).snd rfl).snd rfl).snd rfl).snd rfl).snd rfl).fst.iso.snd rfl).snd rfl).snd rfl).snd rfl)
theorem at86_27 {w : World} {x : S86} {cs : List Value} (h : AtK k86 w x cs 0) : AtK (Kd.int .i64) w x.f7.f0 cs 27 := (((((((h.iso.snd rfl).snd rfl).snd rfl).snd rfl).snd rfl).snd rfl).snd rfl).iso.fst
theorem at86_28 {w : World} {x : S86} {cs : List Value} (h : AtK k86 w x cs 0) : AtK (Kd.slice 28 (Kd.slice 3 (Kd.int .i64))) w x.f7.f1 cs 28 := ((((((((h.iso.snd rfl).snd rfl).snd rfl).snd rfl).snd rfl).snd rfl).snd rfl).iso.snd rfl).fst
theorem at86_29 {w : World} {x : S86} {cs : List Value} (h : AtK k86 w x cs 0) : AtK (Kd.slice 28 (Kd.slice 3 (Kd.int .i64))) w x.f7.f2 cs 29 := (((((((((h.iso.snd rfl).snd rfl).snd rfl).snd rfl).snd rfl).snd rfl).snd rfl).iso.snd rfl).snd rfl).fst
theorem at86_30 {w : World} {x : S86} {cs : List Value} (h : AtK k86 w x cs 0) : AtK (Kd.int .i64) w x.f7.f3 cs 30 := ((((((((((h.iso.snd rfl).snd rfl).snd rfl).snd rfl).snd rfl).snd rfl).snd rfl).iso.snd rfl).snd rfl).snd rfl).fst
theorem at86_31 {w : World} {x : S86} {cs : List Value} (h : AtK k86 w x cs 0) : AtK (Kd.int .i64) w x.f7.f4 cs 31 := (((((((((((h.iso.snd rfl).snd rfl).snd rfl).snd rfl).snd rfl).snd rfl).snd rfl).iso.snd rfl).snd rfl).snd rfl).snd rfl)
theorem at94_0 {w : World} {x : S94} {cs : List Value} (h : AtK k94 w x cs 0) : AtK (Kd.int .i64) w x.f0 cs 0 := h.iso.fst
theorem at94_1 {w : World} {x : S94} {cs : List Value} (h : AtK k94 w x cs 0) : AtK (Kd.int .i64) w x.f1 cs 1 := (h.iso.snd rfl)
theorem at96_0 {w : World} {x : S96} {cs : List Value} (h : AtK k96 w x cs 0) : AtK (Kd.int .i64) w x.f0 cs 0 := h.iso.fst
theorem at96_1 {w : World} {x : S96} {cs : List Value} (h : AtK k96 w x cs 0) : AtK (Kd.int .i64) w x.f1 cs 1 := (h.iso.snd rfl)
theorem at111_0 {w : World} {x : S111} {cs : List Value} (h : AtK k111 w x cs 0) : AtK (Kd.int .i64) w x.f0 cs 0 := h.iso.fst
theorem at111_1 {w : World} {x : S111} {cs : List Value} (h : AtK k111 w x cs 0) : AtK (Kd.slice 3 (Kd.int .i64)) w x.f1 cs 1 := (h.iso.snd rfl)
def laws_szMatrix.g (k : Nat) (x0 : S30) (a1 : Int) : Option Int := ((laws_szIntSS.f k x0.f1 a1).bind fun t5 => (if t5 < 0 then (some (-1)) else ((laws_szIntSS.f k x0.f2 t5).bind fun t13 => (if t13 < 0 then (some (-1)) else (some t13)))))
theorem laws_szMatrix.runs (k : Nat) (x0 : S30) (A0_1 : Option Addr) (c0_1 : Nat) (A0_2 : Option Addr) (c0_2 : Nat) (a1 : Int) (r : Int) (w : World) (hr0_1 : (Kd.slice 3 (Kd.int .i64)).C w A0_1 x0.f1.length x0.f1) (hc0_1 : x0.f1.length ≤ c0_1) (hr0_2 : (Kd.slice 3 (Kd.int .i64)).C w A0_2 x0.f2.length x0.f2) (hc0_2 : x0.f2.length ≤ c0_2) (H : laws_szMatrix.g k x0 a1 = some r) :
    Calls Tryz.prog 17 #[.agg #[.int .i64 x0.f0, .slice A0_1 x0.f1.length c0_1, .slice A0_2 x0.f2.length c0_2, .int .i64 x0.f3, .int .i64 x0.f4], .int .i64 a1] w fun e w' => e = .returned (.int .i64 r) ∧ Below w.heap.size w w' := by
  unfold laws_szMatrix.g at H
  have HS : St (fun _ => True) w w [] [(fun W => (Kd.slice 3 (Kd.int .i64)).C W A0_1 x0.f1.length x0.f1), (fun W => (Kd.slice 3 (Kd.int .i64)).C W A0_2 x0.f2.length x0.f2)] [] := St.start (foot_cons (foot_C (Kd.heap_slice _ (Kd.heap_int _)) hr0_1) (foot_cons (foot_C (Kd.heap_slice _ (Kd.heap_int _)) hr0_2) foot_nil))
  refine cw_ Tryz.func17 fun R_ hR_ => ?_
  refine sr_ fun _ hK1 => ?_
  refine bo_ HS (fun b2 w3 hb2 HS => ?_)
  refine as_ ?_
  refine dn_ hK1 ?_
  refine sr_ fun _ hK4 => ?_
  refine v_ (fa_ Tryz.underlying30) ?_
  refine v_ (lb_ (HS.mu 0 rfl) Tryz.underlying26 rfl) ?_
  refine mv_ ?_
  obtain ⟨t5, ha6, H⟩ := bind_some H
  refine cs0_ HS Tryz.func14 (laws_szIntSS.calls k A0_1 c0_1 x0.f1 a1 t5 _ (HS.getO 0 rfl) hc0_1 ha6) (fun w7 HS => ?_)
  refine as_ ?_
  refine dn_ hK4 ?_
  refine WC.seq fun _ hK8 => ?_
  refine sr_ fun _ hK9 => ?_
  refine mv_ ?_
  refine b_ bin_lss ?_
  refine dn_ hK9 ?_
  rcases ite_ H with ⟨c10, H⟩ | ⟨c10, H⟩
  · refine wy_ (dT c10) ?_
    refine sr_ fun _ hK11 => ?_
    refine as_ ?_
    refine dn_ hK11 ?_
    cases H
    exact rt1 Tryz.f17 rfl rfl hR_ ⟨rfl, HS.b⟩
  refine wn_ (dF c10) ?_
  refine WC.skip ?_
  refine via_ hK8 ?_
  refine sr_ fun _ hK12 => ?_
  refine v_ (fa_ Tryz.underlying30) ?_
  refine v_ (lb_ (HS.mu 0 rfl) Tryz.underlying26 rfl) ?_
  refine mv_ ?_
  obtain ⟨t13, ha14, H⟩ := bind_some H
  refine cs0_ HS Tryz.func14 (laws_szIntSS.calls k A0_2 c0_2 x0.f2 t5 t13 _ (HS.getO 1 rfl) hc0_2 ha14) (fun w15 HS => ?_)
  refine as_ ?_
  refine dn_ hK12 ?_
  refine WC.seq fun _ hK16 => ?_
  refine sr_ fun _ hK17 => ?_
  refine mv_ ?_
  refine b_ bin_lss ?_
  refine dn_ hK17 ?_
  rcases ite_ H with ⟨c18, H⟩ | ⟨c18, H⟩
  · refine wy_ (dT c18) ?_
    refine sr_ fun _ hK19 => ?_
    refine as_ ?_
    refine dn_ hK19 ?_
    cases H
    exact rt1 Tryz.f17 rfl rfl hR_ ⟨rfl, HS.b⟩
  refine wn_ (dF c18) ?_
  refine WC.skip ?_
  refine via_ hK16 ?_
  refine sr_ fun _ hK20 => ?_
  refine mv_ ?_
  refine as_ ?_
  refine dn_ hK20 ?_
  cases H
  exact rt1 Tryz.f17 rfl rfl hR_ ⟨rfl, HS.b⟩
def laws_szTurns.g (k : Nat) (x0 : S32) (a1 : Int) : Option Int := ((laws_szIntSS.f k x0.f0 a1).bind fun t5 => (if t5 < 0 then (some (-1)) else ((laws_szIntSS.f k x0.f1 t5).bind fun t13 => (if t13 < 0 then (some (-1)) else (some t13)))))
theorem laws_szTurns.runs (k : Nat) (x0 : S32) (A0_0 : Option Addr) (c0_0 : Nat) (A0_1 : Option Addr) (c0_1 : Nat) (a1 : Int) (r : Int) (w : World) (hr0_0 : (Kd.slice 3 (Kd.int .i64)).C w A0_0 x0.f0.length x0.f0) (hc0_0 : x0.f0.length ≤ c0_0) (hr0_1 : (Kd.slice 3 (Kd.int .i64)).C w A0_1 x0.f1.length x0.f1) (hc0_1 : x0.f1.length ≤ c0_1) (H : laws_szTurns.g k x0 a1 = some r) :
    Calls Tryz.prog 18 #[.agg #[.slice A0_0 x0.f0.length c0_0, .slice A0_1 x0.f1.length c0_1], .int .i64 a1] w fun e w' => e = .returned (.int .i64 r) ∧ Below w.heap.size w w' := by
  unfold laws_szTurns.g at H
  have HS : St (fun _ => True) w w [] [(fun W => (Kd.slice 3 (Kd.int .i64)).C W A0_0 x0.f0.length x0.f0), (fun W => (Kd.slice 3 (Kd.int .i64)).C W A0_1 x0.f1.length x0.f1)] [] := St.start (foot_cons (foot_C (Kd.heap_slice _ (Kd.heap_int _)) hr0_0) (foot_cons (foot_C (Kd.heap_slice _ (Kd.heap_int _)) hr0_1) foot_nil))
  refine cw_ Tryz.func18 fun R_ hR_ => ?_
  refine sr_ fun _ hK1 => ?_
  refine bo_ HS (fun b2 w3 hb2 HS => ?_)
  refine as_ ?_
  refine dn_ hK1 ?_
  refine sr_ fun _ hK4 => ?_
  refine v_ (fa_ Tryz.underlying32) ?_
  refine v_ (lb_ (HS.mu 0 rfl) Tryz.underlying26 rfl) ?_
  refine mv_ ?_
  obtain ⟨t5, ha6, H⟩ := bind_some H
  refine cs0_ HS Tryz.func14 (laws_szIntSS.calls k A0_0 c0_0 x0.f0 a1 t5 _ (HS.getO 0 rfl) hc0_0 ha6) (fun w7 HS => ?_)
  refine as_ ?_
  refine dn_ hK4 ?_
  refine WC.seq fun _ hK8 => ?_
  refine sr_ fun _ hK9 => ?_
  refine mv_ ?_
  refine b_ bin_lss ?_
  refine dn_ hK9 ?_
  rcases ite_ H with ⟨c10, H⟩ | ⟨c10, H⟩
  · refine wy_ (dT c10) ?_
    refine sr_ fun _ hK11 => ?_
    refine as_ ?_
    refine dn_ hK11 ?_
    cases H
    exact rt1 Tryz.f18 rfl rfl hR_ ⟨rfl, HS.b⟩
  refine wn_ (dF c10) ?_
  refine WC.skip ?_
  refine via_ hK8 ?_
  refine sr_ fun _ hK12 => ?_
  refine v_ (fa_ Tryz.underlying32) ?_
  refine v_ (lb_ (HS.mu 0 rfl) Tryz.underlying26 rfl) ?_
  refine mv_ ?_
  obtain ⟨t13, ha14, H⟩ := bind_some H
  refine cs0_ HS Tryz.func14 (laws_szIntSS.calls k A0_1 c0_1 x0.f1 t5 t13 _ (HS.getO 1 rfl) hc0_1 ha14) (fun w15 HS => ?_)
  refine as_ ?_
  refine dn_ hK12 ?_
  refine WC.seq fun _ hK16 => ?_
  refine sr_ fun _ hK17 => ?_
  refine mv_ ?_
  refine b_ bin_lss ?_
  refine dn_ hK17 ?_
  rcases ite_ H with ⟨c18, H⟩ | ⟨c18, H⟩
  · refine wy_ (dT c18) ?_
    refine sr_ fun _ hK19 => ?_
    refine as_ ?_
    refine dn_ hK19 ?_
    cases H
    exact rt1 Tryz.f18 rfl rfl hR_ ⟨rfl, HS.b⟩
  refine wn_ (dF c18) ?_
  refine WC.skip ?_
  refine via_ hK16 ?_
  refine sr_ fun _ hK20 => ?_
  refine mv_ ?_
  refine as_ ?_
  refine dn_ hK20 ?_
  cases H
  exact rt1 Tryz.f18 rfl rfl hR_ ⟨rfl, HS.b⟩
def laws_toMerge.g (k : Nat) (x0 : S96) : Option S94 := (some (⟨x0.f0, x0.f1⟩ : S94))
theorem laws_toMerge.runs (k : Nat) (x0 : S96) (r : S94) (w : World) (H : laws_toMerge.g k x0 = some r) :
    Calls Tryz.prog 50 #[.agg #[.int .i64 x0.f0, .int .i64 x0.f1]] w fun e w' => e = .returned (.agg #[.int .i64 r.f0, .int .i64 r.f1]) ∧ Below w.heap.size w w' := by
  unfold laws_toMerge.g at H
  have HS : St (fun _ => True) w w [] [] [] := St.start foot_nil
  refine cw_ Tryz.func50 fun R_ hR_ => ?_
  refine sr_ fun _ hK1 => ?_
  refine bo_ HS (fun b2 w3 hb2 HS => ?_)
  refine WL.alloc HS (v := .agg #[.int .i64 0, .int .i64 0]) (cs := #[.int .i64 0, .int .i64 0]) rfl rfl (by decide) rfl (by kernel_rfl) rfl (fun b4 w5 hb4 HS => ?_)
  refine dn_ hK1 ?_
  refine sr_ fun _ hK6 => ?_
  refine WL.alloc HS (v := .agg #[.int .i64 0, .int .i64 0]) (cs := #[.int .i64 0, .int .i64 0]) rfl rfl (by decide) rfl (by kernel_rfl) rfl (fun b7 w8 hb7 HS => ?_)
  refine dn_ hK6 ?_
  refine sr_ fun _ hK9 => ?_
  refine v_ (fa_ Tryz.underlying96) ?_
  refine v_ (lb_ (HS.mu 2 rfl) Tryz.underlying3 rfl) ?_
  refine v_ (fa_ Tryz.underlying94) ?_
  refine WL.store HS 0 rfl rfl rfl rfl rfl rfl rfl (by kernel_rfl) (Nat.le_of_ble_eq_true rfl) (cs' := #[.int .i64 x0.f0, .int .i64 0]) (by kernel_rfl) (fun w10 HS => ?_)
  refine dn_ hK9 ?_
  refine sr_ fun _ hK11 => ?_
  refine v_ (fa_ Tryz.underlying96) ?_
  refine v_ (lb_ (HS.mu 2 rfl) Tryz.underlying3 rfl) ?_
  refine v_ (fa_ Tryz.underlying94) ?_
  refine WL.store HS 0 rfl rfl rfl rfl rfl rfl rfl (by kernel_rfl) (Nat.le_of_ble_eq_true rfl) (cs' := #[.int .i64 x0.f0, .int .i64 x0.f1]) (by kernel_rfl) (fun w12 HS => ?_)
  refine dn_ hK11 ?_
  refine sr_ fun _ hK13 => ?_
  refine v_ (ls_ (HS.mu 0 rfl) Tryz.underlying94 part_all) ?_
  refine WL.storeS HS 1 (vs := [.int .i64 x0.f0, .int .i64 x0.f1]) rfl rfl rfl rfl rfl rfl (one_cons rfl (one_cons rfl one_nil)) (by kernel_rfl) (Nat.le_of_ble_eq_true rfl) (cs' := #[.int .i64 x0.f0, .int .i64 x0.f1]) (by kernel_rfl) (fun w14 HS => ?_)
  refine dn_ hK13 ?_
  cases H
  exact rt1 Tryz.f50 rfl ⟨_, rfl, resv_box (HS.mu 1 rfl) Tryz.underlying94 rfl (by kernel_rfl)⟩ hR_ ⟨rfl, HS.b⟩
def laws_toMergeS.b0 (l0 : List S96) (rec_ : Int → (List S94) → Option (Int × (List S94))) (k27 : Nat) (i15 : Int) (xs16 : List S94) : Option (Int × (List S94)) := (if i15 < (l0.length : Int) then (if 0 ≤ i15 ∧ i15 < (l0.length : Int) then ((laws_toMerge.g k27 (l0.getD i15.toNat o96)).bind fun t37 => (if 0 ≤ i15 ∧ i15 < ((xs16.length : Nat) : Int) then (rec_ (wrap64 (i15 + 1)) (xs16.set i15.toNat t37)) else none)) else none) else (some (i15, xs16)))
def laws_toMergeS.l0 (l0 : List S96) : Nat → Int → (List S94) → Option (Int × (List S94))
  | 0, _, _ => none
  | k + 1, i15, xs16 => laws_toMergeS.b0 l0 (laws_toMergeS.l0 l0 k) k i15 xs16
def laws_toMergeS.g (k : Nat) (l0 : List S96) : Option (List S94) := (if 0 ≤ (l0.length : Int) ∧ (l0.length : Int) < 4294967296 then ((laws_toMergeS.l0 l0 k 0 (List.replicate (l0.length : Int).toNat o94)).bind (fun o25 => (some o25.2))) else none)
theorem laws_toMergeS.runs (k : Nat) (A0 : Option Addr) (c0 : Nat) (l0 : List S96) (r : List S94) (w : World) (hr0 : k96.C w A0 l0.length l0) (hc0 : l0.length ≤ c0) (H : laws_toMergeS.g k l0 = some r) :
    Calls Tryz.prog 22 #[.slice A0 l0.length c0] w fun e w' => ∃ (A0_ : Option Addr) (c0_ : Nat), e = .returned (.slice A0_ r.length c0_) ∧ r.length ≤ c0_ ∧ Foot (fun W => k94.C W A0_ r.length r) w' (fun k_ => w.heap.size ≤ k_) ∧ Below w.heap.size w w' := by
  unfold laws_toMergeS.g at H
  have HS : St (fun _ => True) w w [] [(fun W => k96.C W A0 l0.length l0)] [] := St.start (foot_cons (foot_C h96 hr0) foot_nil)
  refine cw_ Tryz.func22 fun R_ hR_ => ?_
  refine sr_ fun _ hK1 => ?_
  refine as_ ?_
  refine dn_ hK1 ?_
  refine sr_ fun _ hK2 => ?_
  refine mv_ ?_
  refine ln_ Tryz.underlying25 ?_
  obtain ⟨⟨q3, q4⟩, H⟩ := if_some H
  refine WL.make k94 HS rfl rfl (by decide) rfl rfl rfl (.agg #[.int .i64 0, .int .i64 0]) 16 o94 Tryz.underlying42 (by kernel_rfl) rfl (by decide) (by decide) (fun _ => (k94_mk _ o94)) q3 (by omega) (fun v5 w6 I7 hI8 HS => ?_)
  replace HS := HS.deriveN (p := (fun W => Reps (k94.K W) k94.sz (List.replicate (l0.length : Int).toNat o94) I7)) (fun W_ hN_ => hI8 W_)
  refine as_ ?_
  refine dn_ hK2 ?_
  refine WC.seq fun K9 hK9 => ?_
  refine sr_ fun _ hK10 => ?_
  refine as_ ?_
  refine dn_ hK10 ?_
  refine WC.block ?_
  obtain ⟨G11, hG12, o13, H, Ho14⟩ := open_G H
  have X19 : ∀ E_ W_, (∃ (i15 : Int) (xs16 : List S94) (v17 : Value) (I18 : List Value), E_ = [(0, .slice A0 l0.length c0), (3, v17), (4, .int .i64 i15)] ∧ G11 (i15, xs16) = some r ∧ St (fun _ => True) w W_ [rowM w.heap.size 94 2 v17 xs16.length I18] [(fun W => k96.C W A0 l0.length l0)] [(fun W => Reps (k94.K W) k94.sz xs16 I18)]) → ∀ a, Fits a 23 E_ → K9 a W_ := by
    rintro E_ w20 ⟨i15, xs16, v17, I18, rfl, H, HS⟩
    rw [hG12] at H
    (try dsimp only at H)
    refine hK9 _ _ ?_
    refine sr_ fun _ hK21 => ?_
    refine mv_ ?_
    refine as_ ?_
    refine dn_ hK21 ?_
    refine WC.ret ?_
    obtain ⟨A22, c23, rfl⟩ := row_slice (HS.mu 0 rfl)
    have le24 := row_le (HS.mu 0 rfl)
    replace HS := HS.freezeN 0 (p := (fun W => k94.C W A22 (xs16).length (xs16))) rfl (fun W_ hm_ h_ => row_C (by rfl) hm_ (AllF.get 0 rfl h_))
    cases H
    exact fin1 Tryz.f22 rfl rfl hR_ ⟨_, _, rfl, le24, (foot_fresh (HS.footN 0 rfl)), HS.b⟩
  refine WC.loop (fun k_ E_ W_ => ∃ (i15 : Int) (xs16 : List S94) (v17 : Value) (I18 : List Value), E_ = [(0, .slice A0 l0.length c0), (3, v17), (4, .int .i64 i15)] ∧ (∃ o_, laws_toMergeS.l0 l0 k_ i15 xs16 = some o_ ∧ G11 o_ = some r) ∧ St (fun _ => True) w W_ [rowM w.heap.size 94 2 v17 xs16.length I18] [(fun W => k96.C W A0 l0.length l0)] [(fun W => Reps (k94.K W) k94.sz xs16 I18)]) k ⟨0, (List.replicate (l0.length : Int).toNat o94), v5, I7, rfl, ⟨_, H, Ho14⟩, (St.pick HS (fun W_ h_ => ⟨AllF.get 0 rfl h_, trivial⟩) (fun W_ h_ => ⟨AllF.get 0 rfl h_, trivial⟩))⟩ ⟨rfl, rfl, rfl, trivial⟩ ?_
  rintro k_ E_ w26 ⟨i15, xs16, v17, I18, rfl, ⟨o13, H, Ho14⟩, HS⟩
  rcases k_ with _ | k27
  · exact no_ H
  replace H : laws_toMergeS.b0 l0 (laws_toMergeS.l0 l0 k27) k27 i15 xs16 = some o13 := H
  unfold laws_toMergeS.b0 at H
  refine WC.seq fun _ hK28 => ?_
  refine sr_ fun _ hK29 => ?_
  refine mv_ ?_
  refine mv_ ?_
  refine ln_ Tryz.underlying25 ?_
  refine b_ bin_lss ?_
  refine dn_ hK29 ?_
  rcases eti_ H with ⟨c30, H⟩ | ⟨c30, H⟩
  · refine wn_ (dF c30) ?_
    refine WC.exit ?_
    cases H
    exact WQ.via2 (fun _ _ h_ => h_) X19 ⟨i15, xs16, v17, I18, rfl, Ho14, (St.pick HS (fun W_ h_ => ⟨AllF.get 0 rfl h_, trivial⟩) (fun W_ h_ => ⟨AllF.get 0 rfl h_, trivial⟩))⟩ ⟨rfl, rfl, rfl, trivial⟩
  refine wy_ (dT c30) ?_
  refine WC.skip ?_
  refine via_ hK28 ?_
  refine WC.seq fun _ hK31 => ?_
  refine WC.block ?_
  refine rg_ ?_
  refine mv_ ?_
  refine mv_ ?_
  refine mv_ ?_
  refine mv_ ?_
  obtain ⟨⟨q32, q33⟩, H⟩ := if_some H
  obtain ⟨ad34, rfl⟩ := C_open (HS.getO 0 rfl) (by omega)
  refine v_ (ia_ Tryz.underlying25 2 q32 q33) ?_
  obtain ⟨e35, el36, HS⟩ := HS.elO 0 rfl (by decide) o96 i15 q32 q33
  refine v_ (Run.loadS (cs := [.int .i64 ((l0.getD i15.toNat o96).f0), .int .i64 ((l0.getD i15.toNat o96).f1)]) rfl rfl Tryz.underlying96 rfl (by kernel_rfl) (cells_part (HS.getO 0 rfl).2 (part_cons (at96_0 (AtK.whole (HS.getO 0 rfl).1)).int (part_cons (at96_1 (AtK.whole (HS.getO 0 rfl).1)).int part_nil)))) ?_
  obtain ⟨t37, ha38, H⟩ := bind_some H
  refine cs_ HS Tryz.func50 (laws_toMerge.runs k27 (l0.getD i15.toNat o96) t37 _  ha38) (fun w39 HS => ?_)
  obtain ⟨⟨q40, q41⟩, H⟩ := if_some H
  obtain ⟨A42, c43, rfl⟩ := row_slice (HS.mu 0 rfl)
  obtain ⟨ad44, rfl⟩ := row_open (HS.mu 0 rfl) (by omega)
  refine v_ (ia_ Tryz.underlying42 2 q40 q41) ?_
  have hk_ := mul_room q40 q41 2
  refine WL.putEl HS 0 rfl rfl rfl rfl rfl rfl [.int .i64 t37.f0, .int .i64 t37.f1] rfl (one_cons rfl (one_cons rfl one_nil)) (by kernel_rfl) (by first | omega | (rw [List.length_nil]; omega) | (simp; omega)) (fun w45 I46 hI47 HS => ?_)
  clear hk_
  replace HS := HS.deriveN (p := (fun W => Reps (k94.K W) k94.sz (xs16.set i15.toNat t37) I46)) (fun W_ hN_ => reps_set hI47 (AllF.get 0 rfl hN_) (k94_mk _ t37) (toNat_lt q40 q41))
  replace HS := HS.rowN 0 rfl (show xs16.length = (xs16.set i15.toNat t37).length from (List.length_set ..).symm)
  refine dn_ hK31 ?_
  refine rg_ ?_
  refine mv_ ?_
  refine b_ bin_add64 ?_
  refine as_ ?_
  refine WL.done ?_
  exact WQ.round k27 (fun _ _ h_ => h_) (Nat.lt_succ_self _) ⟨(wrap64 (i15 + 1)), (xs16.set i15.toNat t37), (.slice (some ad44) xs16.length c43), I46, rfl, ⟨_, H, Ho14⟩, (St.pick HS (fun W_ h_ => ⟨AllF.get 1 rfl h_, trivial⟩) (fun W_ h_ => ⟨AllF.get 0 rfl h_, trivial⟩))⟩ ⟨rfl, rfl, rfl, trivial⟩
def laws_toMatrix.g (k : Nat) (x0 : S30) : Option S44 := ((laws_toIntSS.f k x0.f1).bind fun t12 => ((laws_toIntSS.f k x0.f2).bind fun t23 => (some (⟨x0.f0, t12, t23, x0.f3, x0.f4⟩ : S44))))
theorem laws_toMatrix.runs (k : Nat) (x0 : S30) (A0_1 : Option Addr) (c0_1 : Nat) (A0_2 : Option Addr) (c0_2 : Nat) (r : S44) (w : World) (hr0_1 : (Kd.slice 3 (Kd.int .i64)).C w A0_1 x0.f1.length x0.f1) (hc0_1 : x0.f1.length ≤ c0_1) (hr0_2 : (Kd.slice 3 (Kd.int .i64)).C w A0_2 x0.f2.length x0.f2) (hc0_2 : x0.f2.length ≤ c0_2) (H : laws_toMatrix.g k x0 = some r) :
    Calls Tryz.prog 26 #[.agg #[.int .i64 x0.f0, .slice A0_1 x0.f1.length c0_1, .slice A0_2 x0.f2.length c0_2, .int .i64 x0.f3, .int .i64 x0.f4]] w fun e w' => ∃ (A0_1_ : Option Addr) (c0_1_ : Nat) (A0_2_ : Option Addr) (c0_2_ : Nat), e = .returned (.agg #[.int .i64 r.f0, .slice A0_1_ r.f1.length c0_1_, .slice A0_2_ r.f2.length c0_2_, .int .i64 r.f3, .int .i64 r.f4]) ∧ r.f1.length ≤ c0_1_ ∧ Foot (fun W => (Kd.slice 3 (Kd.int .i64)).C W A0_1_ r.f1.length r.f1) w' (fun k_ => w.heap.size ≤ k_) ∧ r.f2.length ≤ c0_2_ ∧ Foot (fun W => (Kd.slice 3 (Kd.int .i64)).C W A0_2_ r.f2.length r.f2) w' (fun k_ => w.heap.size ≤ k_) ∧ Below w.heap.size w w' := by
  unfold laws_toMatrix.g at H
  have HS : St (fun _ => True) w w [] [(fun W => (Kd.slice 3 (Kd.int .i64)).C W A0_1 x0.f1.length x0.f1), (fun W => (Kd.slice 3 (Kd.int .i64)).C W A0_2 x0.f2.length x0.f2)] [] := St.start (foot_cons (foot_C (Kd.heap_slice _ (Kd.heap_int _)) hr0_1) (foot_cons (foot_C (Kd.heap_slice _ (Kd.heap_int _)) hr0_2) foot_nil))
  refine cw_ Tryz.func26 fun R_ hR_ => ?_
  refine sr_ fun _ hK1 => ?_
  refine bo_ HS (fun b2 w3 hb2 HS => ?_)
  refine WL.alloc HS (v := .agg #[.int .i64 0, .slice none 0 0, .slice none 0 0, .int .i64 0, .int .i64 0]) (cs := #[.int .i64 0, .slice none 0 0, .slice none 0 0, .int .i64 0, .int .i64 0]) rfl rfl (by decide) rfl (by kernel_rfl) rfl (fun b4 w5 hb4 HS => ?_)
  refine dn_ hK1 ?_
  refine sr_ fun _ hK6 => ?_
  refine WL.alloc HS (v := .agg #[.int .i64 0, .slice none 0 0, .slice none 0 0, .int .i64 0, .int .i64 0]) (cs := #[.int .i64 0, .slice none 0 0, .slice none 0 0, .int .i64 0, .int .i64 0]) rfl rfl (by decide) rfl (by kernel_rfl) rfl (fun b7 w8 hb7 HS => ?_)
  refine dn_ hK6 ?_
  refine sr_ fun _ hK9 => ?_
  refine v_ (fa_ Tryz.underlying30) ?_
  refine v_ (lb_ (HS.mu 2 rfl) Tryz.underlying3 rfl) ?_
  refine v_ (fa_ Tryz.underlying44) ?_
  refine WL.store HS 0 rfl rfl rfl rfl rfl rfl rfl (by kernel_rfl) (Nat.le_of_ble_eq_true rfl) (cs' := #[.int .i64 x0.f0, .slice none 0 0, .slice none 0 0, .int .i64 0, .int .i64 0]) (by kernel_rfl) (fun w10 HS => ?_)
  refine dn_ hK9 ?_
  refine sr_ fun _ hK11 => ?_
  refine v_ (fa_ Tryz.underlying30) ?_
  refine v_ (lb_ (HS.mu 2 rfl) Tryz.underlying26 rfl) ?_
  obtain ⟨t12, ha13, H⟩ := bind_some H
  refine c_ Tryz.func23 (laws_toIntSS.calls k A0_1 c0_1 x0.f1 t12 _ (HS.getO 0 rfl) hc0_1 ha13) ?_
  rintro _ w14 ⟨v15, rfl, h16, hb⟩
  obtain ⟨A17, c18, rfl, le19, hf20⟩ := res_S h16
  replace HS := HS.newNs hb (foot_cons hf20 foot_nil)
  refine ⟨_, rfl, ?_⟩
  clear hb
  refine v_ (fa_ Tryz.underlying44) ?_
  refine WL.store HS 0 rfl rfl rfl rfl rfl rfl rfl (by kernel_rfl) (Nat.le_of_ble_eq_true rfl) (cs' := #[.int .i64 x0.f0, .slice A17 t12.length c18, .slice none 0 0, .int .i64 0, .int .i64 0]) (by kernel_rfl) (fun w21 HS => ?_)
  refine dn_ hK11 ?_
  refine sr_ fun _ hK22 => ?_
  refine v_ (fa_ Tryz.underlying30) ?_
  refine v_ (lb_ (HS.mu 2 rfl) Tryz.underlying26 rfl) ?_
  obtain ⟨t23, ha24, H⟩ := bind_some H
  refine c_ Tryz.func23 (laws_toIntSS.calls k A0_2 c0_2 x0.f2 t23 _ (HS.getO 1 rfl) hc0_2 ha24) ?_
  rintro _ w25 ⟨v26, rfl, h27, hb⟩
  obtain ⟨A28, c29, rfl, le30, hf31⟩ := res_S h27
  replace HS := HS.newNs hb (foot_cons hf31 foot_nil)
  refine ⟨_, rfl, ?_⟩
  clear hb
  refine v_ (fa_ Tryz.underlying44) ?_
  refine WL.store HS 0 rfl rfl rfl rfl rfl rfl rfl (by kernel_rfl) (Nat.le_of_ble_eq_true rfl) (cs' := #[.int .i64 x0.f0, .slice A17 t12.length c18, .slice A28 t23.length c29, .int .i64 0, .int .i64 0]) (by kernel_rfl) (fun w32 HS => ?_)
  refine dn_ hK22 ?_
  refine sr_ fun _ hK33 => ?_
  refine v_ (fa_ Tryz.underlying30) ?_
  refine v_ (lb_ (HS.mu 2 rfl) Tryz.underlying3 rfl) ?_
  refine v_ (fa_ Tryz.underlying44) ?_
  refine WL.store HS 0 rfl rfl rfl rfl rfl rfl rfl (by kernel_rfl) (Nat.le_of_ble_eq_true rfl) (cs' := #[.int .i64 x0.f0, .slice A17 t12.length c18, .slice A28 t23.length c29, .int .i64 x0.f3, .int .i64 0]) (by kernel_rfl) (fun w34 HS => ?_)
  refine dn_ hK33 ?_
  refine sr_ fun _ hK35 => ?_
  refine v_ (fa_ Tryz.underlying30) ?_
  refine v_ (lb_ (HS.mu 2 rfl) Tryz.underlying3 rfl) ?_
  refine v_ (fa_ Tryz.underlying44) ?_
  refine WL.store HS 0 rfl rfl rfl rfl rfl rfl rfl (by kernel_rfl) (Nat.le_of_ble_eq_true rfl) (cs' := #[.int .i64 x0.f0, .slice A17 t12.length c18, .slice A28 t23.length c29, .int .i64 x0.f3, .int .i64 x0.f4]) (by kernel_rfl) (fun w36 HS => ?_)
  refine dn_ hK35 ?_
  refine sr_ fun _ hK37 => ?_
  refine v_ (ls_ (HS.mu 0 rfl) Tryz.underlying44 part_all) ?_
  refine WL.storeS HS 1 (vs := [.int .i64 x0.f0, .slice A17 t12.length c18, .slice A28 t23.length c29, .int .i64 x0.f3, .int .i64 x0.f4]) rfl rfl rfl rfl rfl rfl (one_cons rfl (one_cons rfl (one_cons rfl (one_cons rfl (one_cons rfl one_nil))))) (by kernel_rfl) (Nat.le_of_ble_eq_true rfl) (cs' := #[.int .i64 x0.f0, .slice A17 t12.length c18, .slice A28 t23.length c29, .int .i64 x0.f3, .int .i64 x0.f4]) (by kernel_rfl) (fun w38 HS => ?_)
  refine dn_ hK37 ?_
  cases H
  exact rt1 Tryz.f26 rfl ⟨_, rfl, resv_box (HS.mu 1 rfl) Tryz.underlying44 rfl (by kernel_rfl)⟩ hR_ ⟨_, _, _, _, rfl, le19, (foot_fresh (HS.footN 1 rfl)), le30, (foot_fresh (HS.footN 0 rfl)), HS.b⟩
def laws_toTurns.g (k : Nat) (x0 : S32) : Option S45 := ((laws_toIntSS.f k x0.f0).bind fun t10 => ((laws_toIntSS.f k x0.f1).bind fun t21 => (some (⟨t10, t21⟩ : S45))))
theorem laws_toTurns.runs (k : Nat) (x0 : S32) (A0_0 : Option Addr) (c0_0 : Nat) (A0_1 : Option Addr) (c0_1 : Nat) (r : S45) (w : World) (hr0_0 : (Kd.slice 3 (Kd.int .i64)).C w A0_0 x0.f0.length x0.f0) (hc0_0 : x0.f0.length ≤ c0_0) (hr0_1 : (Kd.slice 3 (Kd.int .i64)).C w A0_1 x0.f1.length x0.f1) (hc0_1 : x0.f1.length ≤ c0_1) (H : laws_toTurns.g k x0 = some r) :
    Calls Tryz.prog 27 #[.agg #[.slice A0_0 x0.f0.length c0_0, .slice A0_1 x0.f1.length c0_1]] w fun e w' => ∃ (A0_0_ : Option Addr) (c0_0_ : Nat) (A0_1_ : Option Addr) (c0_1_ : Nat), e = .returned (.agg #[.slice A0_0_ r.f0.length c0_0_, .slice A0_1_ r.f1.length c0_1_]) ∧ r.f0.length ≤ c0_0_ ∧ Foot (fun W => (Kd.slice 3 (Kd.int .i64)).C W A0_0_ r.f0.length r.f0) w' (fun k_ => w.heap.size ≤ k_) ∧ r.f1.length ≤ c0_1_ ∧ Foot (fun W => (Kd.slice 3 (Kd.int .i64)).C W A0_1_ r.f1.length r.f1) w' (fun k_ => w.heap.size ≤ k_) ∧ Below w.heap.size w w' := by
  unfold laws_toTurns.g at H
  have HS : St (fun _ => True) w w [] [(fun W => (Kd.slice 3 (Kd.int .i64)).C W A0_0 x0.f0.length x0.f0), (fun W => (Kd.slice 3 (Kd.int .i64)).C W A0_1 x0.f1.length x0.f1)] [] := St.start (foot_cons (foot_C (Kd.heap_slice _ (Kd.heap_int _)) hr0_0) (foot_cons (foot_C (Kd.heap_slice _ (Kd.heap_int _)) hr0_1) foot_nil))
  refine cw_ Tryz.func27 fun R_ hR_ => ?_
  refine sr_ fun _ hK1 => ?_
  refine bo_ HS (fun b2 w3 hb2 HS => ?_)
  refine WL.alloc HS (v := .agg #[.slice none 0 0, .slice none 0 0]) (cs := #[.slice none 0 0, .slice none 0 0]) rfl rfl (by decide) rfl (by kernel_rfl) rfl (fun b4 w5 hb4 HS => ?_)
  refine dn_ hK1 ?_
  refine sr_ fun _ hK6 => ?_
  refine WL.alloc HS (v := .agg #[.slice none 0 0, .slice none 0 0]) (cs := #[.slice none 0 0, .slice none 0 0]) rfl rfl (by decide) rfl (by kernel_rfl) rfl (fun b7 w8 hb7 HS => ?_)
  refine dn_ hK6 ?_
  refine sr_ fun _ hK9 => ?_
  refine v_ (fa_ Tryz.underlying32) ?_
  refine v_ (lb_ (HS.mu 2 rfl) Tryz.underlying26 rfl) ?_
  obtain ⟨t10, ha11, H⟩ := bind_some H
  refine c_ Tryz.func23 (laws_toIntSS.calls k A0_0 c0_0 x0.f0 t10 _ (HS.getO 0 rfl) hc0_0 ha11) ?_
  rintro _ w12 ⟨v13, rfl, h14, hb⟩
  obtain ⟨A15, c16, rfl, le17, hf18⟩ := res_S h14
  replace HS := HS.newNs hb (foot_cons hf18 foot_nil)
  refine ⟨_, rfl, ?_⟩
  clear hb
  refine v_ (fa_ Tryz.underlying45) ?_
  refine WL.store HS 0 rfl rfl rfl rfl rfl rfl rfl (by kernel_rfl) (Nat.le_of_ble_eq_true rfl) (cs' := #[.slice A15 t10.length c16, .slice none 0 0]) (by kernel_rfl) (fun w19 HS => ?_)
  refine dn_ hK9 ?_
  refine sr_ fun _ hK20 => ?_
  refine v_ (fa_ Tryz.underlying32) ?_
  refine v_ (lb_ (HS.mu 2 rfl) Tryz.underlying26 rfl) ?_
  obtain ⟨t21, ha22, H⟩ := bind_some H
  refine c_ Tryz.func23 (laws_toIntSS.calls k A0_1 c0_1 x0.f1 t21 _ (HS.getO 1 rfl) hc0_1 ha22) ?_
  rintro _ w23 ⟨v24, rfl, h25, hb⟩
  obtain ⟨A26, c27, rfl, le28, hf29⟩ := res_S h25
  replace HS := HS.newNs hb (foot_cons hf29 foot_nil)
  refine ⟨_, rfl, ?_⟩
  clear hb
  refine v_ (fa_ Tryz.underlying45) ?_
  refine WL.store HS 0 rfl rfl rfl rfl rfl rfl rfl (by kernel_rfl) (Nat.le_of_ble_eq_true rfl) (cs' := #[.slice A15 t10.length c16, .slice A26 t21.length c27]) (by kernel_rfl) (fun w30 HS => ?_)
  refine dn_ hK20 ?_
  refine sr_ fun _ hK31 => ?_
  refine v_ (ls_ (HS.mu 0 rfl) Tryz.underlying45 part_all) ?_
  refine WL.storeS HS 1 (vs := [.slice A15 t10.length c16, .slice A26 t21.length c27]) rfl rfl rfl rfl rfl rfl (one_cons rfl (one_cons rfl one_nil)) (by kernel_rfl) (Nat.le_of_ble_eq_true rfl) (cs' := #[.slice A15 t10.length c16, .slice A26 t21.length c27]) (by kernel_rfl) (fun w32 HS => ?_)
  refine dn_ hK31 ?_
  cases H
  exact rt1 Tryz.f27 rfl ⟨_, rfl, resv_box (HS.mu 1 rfl) Tryz.underlying45 rfl (by kernel_rfl)⟩ hR_ ⟨_, _, _, _, rfl, le17, (foot_fresh (HS.footN 1 rfl)), le28, (foot_fresh (HS.footN 0 rfl)), HS.b⟩
def laws_eqMerge.g (k : Nat) (x0 : S94) (x1 : S94) : Option Bool := (if x0.f0 = x1.f0 then (if x0.f1 = x1.f1 then (some true) else (some false)) else (some false))
theorem laws_eqMerge.runs (k : Nat) (x0 : S94) (x1 : S94) (r : Bool) (w : World) (H : laws_eqMerge.g k x0 x1 = some r) :
    Calls Tryz.prog 67 #[.agg #[.int .i64 x0.f0, .int .i64 x0.f1], .agg #[.int .i64 x1.f0, .int .i64 x1.f1]] w fun e w' => e = .returned (.bool r) ∧ Below w.heap.size w w' := by
  unfold laws_eqMerge.g at H
  have HS : St (fun _ => True) w w [] [] [] := St.start foot_nil
  refine cw_ Tryz.func67 fun R_ hR_ => ?_
  refine sr_ fun _ hK1 => ?_
  refine bo_ HS (fun b2 w3 hb2 HS => ?_)
  refine bo_ HS (fun b4 w5 hb4 HS => ?_)
  refine as_ ?_
  refine dn_ hK1 ?_
  refine WC.seq fun _ hK6 => ?_
  refine sr_ fun _ hK7 => ?_
  refine v_ (fa_ Tryz.underlying94) ?_
  refine v_ (lb_ (HS.mu 1 rfl) Tryz.underlying3 rfl) ?_
  refine v_ (fa_ Tryz.underlying94) ?_
  refine v_ (lb_ (HS.mu 0 rfl) Tryz.underlying3 rfl) ?_
  refine b_ bin_neq ?_
  refine dn_ hK7 ?_
  rcases eti_ H with ⟨c8, H⟩ | ⟨c8, H⟩
  · refine wy_ (qT c8) ?_
    refine sr_ fun _ hK14 => ?_
    refine as_ ?_
    refine dn_ hK14 ?_
    cases H
    exact rt1 Tryz.f67 rfl rfl hR_ ⟨rfl, HS.b⟩
  refine wn_ (qF c8) ?_
  refine WC.skip ?_
  refine via_ hK6 ?_
  refine WC.seq fun _ hK9 => ?_
  refine sr_ fun _ hK10 => ?_
  refine v_ (fa_ Tryz.underlying94) ?_
  refine v_ (lb_ (HS.mu 1 rfl) Tryz.underlying3 rfl) ?_
  refine v_ (fa_ Tryz.underlying94) ?_
  refine v_ (lb_ (HS.mu 0 rfl) Tryz.underlying3 rfl) ?_
  refine b_ bin_neq ?_
  refine dn_ hK10 ?_
  rcases eti_ H with ⟨c11, H⟩ | ⟨c11, H⟩
  · refine wy_ (qT c11) ?_
    refine sr_ fun _ hK13 => ?_
    refine as_ ?_
    refine dn_ hK13 ?_
    cases H
    exact rt1 Tryz.f67 rfl rfl hR_ ⟨rfl, HS.b⟩
  refine wn_ (qF c11) ?_
  refine WC.skip ?_
  refine via_ hK9 ?_
  refine sr_ fun _ hK12 => ?_
  refine as_ ?_
  refine dn_ hK12 ?_
  cases H
  exact rt1 Tryz.f67 rfl rfl hR_ ⟨rfl, HS.b⟩
def laws_eqMergeS.b0 (l0 : List S94) (l1 : List S94) (rec_ : Int → Option (Bool ⊕ Int)) (k17 : Nat) (i11 : Int) : Option (Bool ⊕ Int) := (if i11 < (l0.length : Int) then (if 0 ≤ i11 ∧ i11 < (l0.length : Int) then (if 0 ≤ i11 ∧ i11 < (l1.length : Int) then ((laws_eqMerge.g k17 (l0.getD i11.toNat o94) (l1.getD i11.toNat o94)).bind fun t34 => (if t34 = true then (rec_ (wrap64 (i11 + 1))) else (some (Sum.inl false)))) else none) else none) else (some (Sum.inr i11)))
def laws_eqMergeS.l0 (l0 : List S94) (l1 : List S94) : Nat → Int → Option (Bool ⊕ Int)
  | 0, _ => none
  | k + 1, i11 => laws_eqMergeS.b0 l0 l1 (laws_eqMergeS.l0 l0 l1 k) k i11
def laws_eqMergeS.g (k : Nat) (l0 : List S94) (l1 : List S94) : Option Bool := (if (l0.length : Int) = (l1.length : Int) then ((laws_eqMergeS.l0 l0 l1 k 0).bind (fun o15 => match o15 with | .inl r_ => some r_ | .inr i11 => (some true))) else (some false))
theorem laws_eqMergeS.runs (k : Nat) (A0 : Option Addr) (c0 : Nat) (l0 : List S94) (A1 : Option Addr) (c1 : Nat) (l1 : List S94) (r : Bool) (w : World) (hr0 : k94.C w A0 l0.length l0) (hc0 : l0.length ≤ c0) (hr1 : k94.C w A1 l1.length l1) (hc1 : l1.length ≤ c1) (H : laws_eqMergeS.g k l0 l1 = some r) :
    Calls Tryz.prog 31 #[.slice A0 l0.length c0, .slice A1 l1.length c1] w fun e w' => e = .returned (.bool r) ∧ Below w.heap.size w w' := by
  unfold laws_eqMergeS.g at H
  have HS : St (fun _ => True) w w [] [(fun W => k94.C W A0 l0.length l0), (fun W => k94.C W A1 l1.length l1)] [] := St.start (foot_cons (foot_C h94 hr0) (foot_cons (foot_C h94 hr1) foot_nil))
  refine cw_ Tryz.func31 fun R_ hR_ => ?_
  refine sr_ fun _ hK1 => ?_
  refine as_ ?_
  refine dn_ hK1 ?_
  refine WC.seq fun _ hK2 => ?_
  refine sr_ fun _ hK3 => ?_
  refine mv_ ?_
  refine ln_ Tryz.underlying42 ?_
  refine mv_ ?_
  refine ln_ Tryz.underlying42 ?_
  refine b_ bin_neq ?_
  refine dn_ hK3 ?_
  rcases eti_ H with ⟨c4, H⟩ | ⟨c4, H⟩
  · refine wy_ (qT c4) ?_
    refine sr_ fun _ hK39 => ?_
    refine as_ ?_
    refine dn_ hK39 ?_
    cases H
    exact rt1 Tryz.f31 rfl rfl hR_ ⟨rfl, HS.b⟩
  refine wn_ (qF c4) ?_
  refine WC.skip ?_
  refine via_ hK2 ?_
  refine WC.seq fun K5 hK5 => ?_
  refine sr_ fun _ hK6 => ?_
  refine as_ ?_
  refine dn_ hK6 ?_
  refine WC.block ?_
  obtain ⟨G7, hG8, o9, H, Ho10⟩ := open_G H
  have X12 : ∀ E_ W_, (∃ (i11 : Int), E_ = [(0, .slice A0 l0.length c0), (1, .slice A1 l1.length c1), (5, .int .i64 i11)] ∧ G7 (Sum.inr i11) = some r ∧ St (fun _ => True) w W_ [] [(fun W => k94.C W A0 l0.length l0), (fun W => k94.C W A1 l1.length l1)] []) → ∀ a, Fits a 27 E_ → K5 a W_ := by
    rintro E_ w13 ⟨i11, rfl, H, HS⟩
    rw [hG8] at H
    (try dsimp only at H)
    refine hK5 _ _ ?_
    refine sr_ fun _ hK14 => ?_
    refine as_ ?_
    refine dn_ hK14 ?_
    cases H
    exact rt1 Tryz.f31 rfl rfl hR_ ⟨rfl, HS.b⟩
  refine WC.loop (fun k_ E_ W_ => ∃ (i11 : Int), E_ = [(0, .slice A0 l0.length c0), (1, .slice A1 l1.length c1), (5, .int .i64 i11)] ∧ (∃ o_, laws_eqMergeS.l0 l0 l1 k_ i11 = some o_ ∧ G7 o_ = some r) ∧ St (fun _ => True) w W_ [] [(fun W => k94.C W A0 l0.length l0), (fun W => k94.C W A1 l1.length l1)] []) k ⟨0, rfl, ⟨_, H, Ho10⟩, (St.pick HS (fun W_ h_ => ⟨AllF.get 0 rfl h_, AllF.get 1 rfl h_, trivial⟩) (fun W_ h_ => trivial))⟩ ⟨rfl, rfl, rfl, trivial⟩ ?_
  rintro k_ E_ w16 ⟨i11, rfl, ⟨o9, H, Ho10⟩, HS⟩
  rcases k_ with _ | k17
  · exact no_ H
  replace H : laws_eqMergeS.b0 l0 l1 (laws_eqMergeS.l0 l0 l1 k17) k17 i11 = some o9 := H
  unfold laws_eqMergeS.b0 at H
  refine WC.seq fun _ hK18 => ?_
  refine sr_ fun _ hK19 => ?_
  refine mv_ ?_
  refine mv_ ?_
  refine ln_ Tryz.underlying42 ?_
  refine b_ bin_lss ?_
  refine dn_ hK19 ?_
  rcases eti_ H with ⟨c20, H⟩ | ⟨c20, H⟩
  · refine wn_ (dF c20) ?_
    refine WC.exit ?_
    cases H
    exact WQ.via2 (fun _ _ h_ => h_) X12 ⟨i11, rfl, Ho10, (St.pick HS (fun W_ h_ => ⟨AllF.get 0 rfl h_, AllF.get 1 rfl h_, trivial⟩) (fun W_ h_ => trivial))⟩ ⟨rfl, rfl, rfl, trivial⟩
  refine wy_ (dT c20) ?_
  refine WC.skip ?_
  refine via_ hK18 ?_
  refine WC.seq fun _ hK21 => ?_
  refine WC.block ?_
  refine WC.seq fun _ hK22 => ?_
  refine WC.drawS HS [] rfl rfl (fun w23 HS => ?_)
  have HB := Below.refl w23.heap.size w23
  have HSW := HS
  refine dm_ 0 ?_
  refine dm_ 1 ?_
  obtain ⟨⟨q24, q25⟩, H⟩ := if_some H
  obtain ⟨ad26, rfl⟩ := C_open (HS.getO 0 rfl) (by omega)
  refine di_ 2 Tryz.underlying42 2 q24 q25 ?_
  refine dm_ 4 ?_
  refine dm_ 5 ?_
  obtain ⟨⟨q27, q28⟩, H⟩ := if_some H
  obtain ⟨ad29, rfl⟩ := C_open (HS.getO 1 rfl) (by omega)
  refine di_ 6 Tryz.underlying42 2 q27 q28 ?_
  obtain ⟨e30, el31, HS⟩ := HS.elO 0 rfl (by decide) o94 i11 q24 q25
  refine dt_ 3 (Below.refl _ _) (fun w_ hw_ => Run.loadS (cs := [.int .i64 ((l0.getD i11.toNat o94).f0), .int .i64 ((l0.getD i11.toNat o94).f1)]) rfl rfl Tryz.underlying94 rfl (by kernel_rfl) (cells_part ((HS.below hw_).getO 0 rfl).2 (part_cons (at94_0 (AtK.whole ((HS.below hw_).getO 0 rfl).1)).int (part_cons (at94_1 (AtK.whole ((HS.below hw_).getO 0 rfl).1)).int part_nil)))) ?_
  obtain ⟨e32, el33, HS⟩ := HS.elO 2 rfl (by decide) o94 i11 q27 q28
  refine dt_ 7 (Below.refl _ _) (fun w_ hw_ => Run.loadS (cs := [.int .i64 ((l1.getD i11.toNat o94).f0), .int .i64 ((l1.getD i11.toNat o94).f1)]) rfl rfl Tryz.underlying94 rfl (by kernel_rfl) (cells_part ((HS.below hw_).getO 0 rfl).2 (part_cons (at94_0 (AtK.whole ((HS.below hw_).getO 0 rfl).1)).int (part_cons (at94_1 (AtK.whole ((HS.below hw_).getO 0 rfl).1)).int part_nil)))) ?_
  obtain ⟨t34, ha35, H⟩ := bind_some H
  refine dcs_ HS HB 8 (w_none rfl) Tryz.func67 (laws_eqMerge.runs k17 (l0.getD i11.toNat o94) (l1.getD i11.toNat o94) t34 _  ha35) (fun w36 HS HB => ?_)
  refine dp_ 9 (fun _ => Run.not rfl rfl) ?_
  refine dd_ ?_
  clear HB HSW
  refine via_ hK22 ?_
  rcases eti_ H with ⟨c37, H⟩ | ⟨c37, H⟩
  · refine wy_ (nB (bF c37)) ?_
    refine sr_ fun _ hK38 => ?_
    refine as_ ?_
    refine dn_ hK38 ?_
    refine WC.ret ?_
    cases H
    rw [hG8] at Ho10
    replace H : some _ = some _ := Ho10
    cases H
    exact fin1 Tryz.f31 rfl rfl hR_ ⟨rfl, HS.b⟩
  refine wn_ (nB c37) ?_
  refine WC.skip ?_
  refine via_ hK21 ?_
  refine rg_ ?_
  refine mv_ ?_
  refine b_ bin_add64 ?_
  refine as_ ?_
  refine WL.done ?_
  exact WQ.round k17 (fun _ _ h_ => h_) (Nat.lt_succ_self _) ⟨(wrap64 (i11 + 1)), rfl, ⟨_, H, Ho10⟩, (St.pick HS (fun W_ h_ => ⟨AllF.get 2 rfl h_, AllF.get 3 rfl h_, trivial⟩) (fun W_ h_ => trivial))⟩ ⟨rfl, rfl, rfl, trivial⟩
def laws_eqMatrix.g (k : Nat) (x0 : S44) (x1 : S44) : Option Bool := (if x0.f0 = x1.f0 then ((laws_eqIntSS.f k x0.f1 x1.f1).bind fun t11 => (if t11 = true then ((laws_eqIntSS.f k x0.f2 x1.f2).bind fun t17 => (if t17 = true then (if x0.f3 = x1.f3 then (if x0.f4 = x1.f4 then (some true) else (some false)) else (some false)) else (some false))) else (some false))) else (some false))
theorem laws_eqMatrix.runs (k : Nat) (x0 : S44) (A0_1 : Option Addr) (c0_1 : Nat) (A0_2 : Option Addr) (c0_2 : Nat) (x1 : S44) (A1_1 : Option Addr) (c1_1 : Nat) (A1_2 : Option Addr) (c1_2 : Nat) (r : Bool) (w : World) (hr0_1 : (Kd.slice 3 (Kd.int .i64)).C w A0_1 x0.f1.length x0.f1) (hc0_1 : x0.f1.length ≤ c0_1) (hr0_2 : (Kd.slice 3 (Kd.int .i64)).C w A0_2 x0.f2.length x0.f2) (hc0_2 : x0.f2.length ≤ c0_2) (hr1_1 : (Kd.slice 3 (Kd.int .i64)).C w A1_1 x1.f1.length x1.f1) (hc1_1 : x1.f1.length ≤ c1_1) (hr1_2 : (Kd.slice 3 (Kd.int .i64)).C w A1_2 x1.f2.length x1.f2) (hc1_2 : x1.f2.length ≤ c1_2) (H : laws_eqMatrix.g k x0 x1 = some r) :
    Calls Tryz.prog 35 #[.agg #[.int .i64 x0.f0, .slice A0_1 x0.f1.length c0_1, .slice A0_2 x0.f2.length c0_2, .int .i64 x0.f3, .int .i64 x0.f4], .agg #[.int .i64 x1.f0, .slice A1_1 x1.f1.length c1_1, .slice A1_2 x1.f2.length c1_2, .int .i64 x1.f3, .int .i64 x1.f4]] w fun e w' => e = .returned (.bool r) ∧ Below w.heap.size w w' := by
  unfold laws_eqMatrix.g at H
  have HS : St (fun _ => True) w w [] [(fun W => (Kd.slice 3 (Kd.int .i64)).C W A0_1 x0.f1.length x0.f1), (fun W => (Kd.slice 3 (Kd.int .i64)).C W A0_2 x0.f2.length x0.f2), (fun W => (Kd.slice 3 (Kd.int .i64)).C W A1_1 x1.f1.length x1.f1), (fun W => (Kd.slice 3 (Kd.int .i64)).C W A1_2 x1.f2.length x1.f2)] [] := St.start (foot_cons (foot_C (Kd.heap_slice _ (Kd.heap_int _)) hr0_1) (foot_cons (foot_C (Kd.heap_slice _ (Kd.heap_int _)) hr0_2) (foot_cons (foot_C (Kd.heap_slice _ (Kd.heap_int _)) hr1_1) (foot_cons (foot_C (Kd.heap_slice _ (Kd.heap_int _)) hr1_2) foot_nil))))
  refine cw_ Tryz.func35 fun R_ hR_ => ?_
  refine sr_ fun _ hK1 => ?_
  refine bo_ HS (fun b2 w3 hb2 HS => ?_)
  refine bo_ HS (fun b4 w5 hb4 HS => ?_)
  refine as_ ?_
  refine dn_ hK1 ?_
  refine WC.seq fun _ hK6 => ?_
  refine sr_ fun _ hK7 => ?_
  refine v_ (fa_ Tryz.underlying44) ?_
  refine v_ (lb_ (HS.mu 1 rfl) Tryz.underlying3 rfl) ?_
  refine v_ (fa_ Tryz.underlying44) ?_
  refine v_ (lb_ (HS.mu 0 rfl) Tryz.underlying3 rfl) ?_
  refine b_ bin_neq ?_
  refine dn_ hK7 ?_
  rcases eti_ H with ⟨c8, H⟩ | ⟨c8, H⟩
  · refine wy_ (qT c8) ?_
    refine sr_ fun _ hK32 => ?_
    refine as_ ?_
    refine dn_ hK32 ?_
    cases H
    exact rt1 Tryz.f35 rfl rfl hR_ ⟨rfl, HS.b⟩
  refine wn_ (qF c8) ?_
  refine WC.skip ?_
  refine via_ hK6 ?_
  refine WC.seq fun _ hK9 => ?_
  refine sr_ fun _ hK10 => ?_
  refine v_ (fa_ Tryz.underlying44) ?_
  refine v_ (lb_ (HS.mu 1 rfl) Tryz.underlying26 rfl) ?_
  refine v_ (fa_ Tryz.underlying44) ?_
  refine v_ (lb_ (HS.mu 0 rfl) Tryz.underlying26 rfl) ?_
  obtain ⟨t11, ha12, H⟩ := bind_some H
  refine cs0_ HS Tryz.func32 (laws_eqIntSS.calls k A0_1 c0_1 x0.f1 A1_1 c1_1 x1.f1 t11 _ (HS.getO 0 rfl) hc0_1 (HS.getO 2 rfl) hc1_1 ha12) (fun w13 HS => ?_)
  refine nt_ ?_
  refine dn_ hK10 ?_
  rcases eti_ H with ⟨c14, H⟩ | ⟨c14, H⟩
  · refine wy_ (nB (bF c14)) ?_
    refine sr_ fun _ hK31 => ?_
    refine as_ ?_
    refine dn_ hK31 ?_
    cases H
    exact rt1 Tryz.f35 rfl rfl hR_ ⟨rfl, HS.b⟩
  refine wn_ (nB c14) ?_
  refine WC.skip ?_
  refine via_ hK9 ?_
  refine WC.seq fun _ hK15 => ?_
  refine sr_ fun _ hK16 => ?_
  refine v_ (fa_ Tryz.underlying44) ?_
  refine v_ (lb_ (HS.mu 1 rfl) Tryz.underlying26 rfl) ?_
  refine v_ (fa_ Tryz.underlying44) ?_
  refine v_ (lb_ (HS.mu 0 rfl) Tryz.underlying26 rfl) ?_
  obtain ⟨t17, ha18, H⟩ := bind_some H
  refine cs0_ HS Tryz.func32 (laws_eqIntSS.calls k A0_2 c0_2 x0.f2 A1_2 c1_2 x1.f2 t17 _ (HS.getO 1 rfl) hc0_2 (HS.getO 3 rfl) hc1_2 ha18) (fun w19 HS => ?_)
  refine nt_ ?_
  refine dn_ hK16 ?_
  rcases eti_ H with ⟨c20, H⟩ | ⟨c20, H⟩
  · refine wy_ (nB (bF c20)) ?_
    refine sr_ fun _ hK30 => ?_
    refine as_ ?_
    refine dn_ hK30 ?_
    cases H
    exact rt1 Tryz.f35 rfl rfl hR_ ⟨rfl, HS.b⟩
  refine wn_ (nB c20) ?_
  refine WC.skip ?_
  refine via_ hK15 ?_
  refine WC.seq fun _ hK21 => ?_
  refine sr_ fun _ hK22 => ?_
  refine v_ (fa_ Tryz.underlying44) ?_
  refine v_ (lb_ (HS.mu 1 rfl) Tryz.underlying3 rfl) ?_
  refine v_ (fa_ Tryz.underlying44) ?_
  refine v_ (lb_ (HS.mu 0 rfl) Tryz.underlying3 rfl) ?_
  refine b_ bin_neq ?_
  refine dn_ hK22 ?_
  rcases eti_ H with ⟨c23, H⟩ | ⟨c23, H⟩
  · refine wy_ (qT c23) ?_
    refine sr_ fun _ hK29 => ?_
    refine as_ ?_
    refine dn_ hK29 ?_
    cases H
    exact rt1 Tryz.f35 rfl rfl hR_ ⟨rfl, HS.b⟩
  refine wn_ (qF c23) ?_
  refine WC.skip ?_
  refine via_ hK21 ?_
  refine WC.seq fun _ hK24 => ?_
  refine sr_ fun _ hK25 => ?_
  refine v_ (fa_ Tryz.underlying44) ?_
  refine v_ (lb_ (HS.mu 1 rfl) Tryz.underlying3 rfl) ?_
  refine v_ (fa_ Tryz.underlying44) ?_
  refine v_ (lb_ (HS.mu 0 rfl) Tryz.underlying3 rfl) ?_
  refine b_ bin_neq ?_
  refine dn_ hK25 ?_
  rcases eti_ H with ⟨c26, H⟩ | ⟨c26, H⟩
  · refine wy_ (qT c26) ?_
    refine sr_ fun _ hK28 => ?_
    refine as_ ?_
    refine dn_ hK28 ?_
    cases H
    exact rt1 Tryz.f35 rfl rfl hR_ ⟨rfl, HS.b⟩
  refine wn_ (qF c26) ?_
  refine WC.skip ?_
  refine via_ hK24 ?_
  refine sr_ fun _ hK27 => ?_
  refine as_ ?_
  refine dn_ hK27 ?_
  cases H
  exact rt1 Tryz.f35 rfl rfl hR_ ⟨rfl, HS.b⟩
def laws_eqTurns.g (k : Nat) (x0 : S45) (x1 : S45) : Option Bool := ((laws_eqIntSS.f k x0.f0 x1.f0).bind fun t8 => (if t8 = true then ((laws_eqIntSS.f k x0.f1 x1.f1).bind fun t14 => (if t14 = true then (some true) else (some false))) else (some false)))
theorem laws_eqTurns.runs (k : Nat) (x0 : S45) (A0_0 : Option Addr) (c0_0 : Nat) (A0_1 : Option Addr) (c0_1 : Nat) (x1 : S45) (A1_0 : Option Addr) (c1_0 : Nat) (A1_1 : Option Addr) (c1_1 : Nat) (r : Bool) (w : World) (hr0_0 : (Kd.slice 3 (Kd.int .i64)).C w A0_0 x0.f0.length x0.f0) (hc0_0 : x0.f0.length ≤ c0_0) (hr0_1 : (Kd.slice 3 (Kd.int .i64)).C w A0_1 x0.f1.length x0.f1) (hc0_1 : x0.f1.length ≤ c0_1) (hr1_0 : (Kd.slice 3 (Kd.int .i64)).C w A1_0 x1.f0.length x1.f0) (hc1_0 : x1.f0.length ≤ c1_0) (hr1_1 : (Kd.slice 3 (Kd.int .i64)).C w A1_1 x1.f1.length x1.f1) (hc1_1 : x1.f1.length ≤ c1_1) (H : laws_eqTurns.g k x0 x1 = some r) :
    Calls Tryz.prog 36 #[.agg #[.slice A0_0 x0.f0.length c0_0, .slice A0_1 x0.f1.length c0_1], .agg #[.slice A1_0 x1.f0.length c1_0, .slice A1_1 x1.f1.length c1_1]] w fun e w' => e = .returned (.bool r) ∧ Below w.heap.size w w' := by
  unfold laws_eqTurns.g at H
  have HS : St (fun _ => True) w w [] [(fun W => (Kd.slice 3 (Kd.int .i64)).C W A0_0 x0.f0.length x0.f0), (fun W => (Kd.slice 3 (Kd.int .i64)).C W A0_1 x0.f1.length x0.f1), (fun W => (Kd.slice 3 (Kd.int .i64)).C W A1_0 x1.f0.length x1.f0), (fun W => (Kd.slice 3 (Kd.int .i64)).C W A1_1 x1.f1.length x1.f1)] [] := St.start (foot_cons (foot_C (Kd.heap_slice _ (Kd.heap_int _)) hr0_0) (foot_cons (foot_C (Kd.heap_slice _ (Kd.heap_int _)) hr0_1) (foot_cons (foot_C (Kd.heap_slice _ (Kd.heap_int _)) hr1_0) (foot_cons (foot_C (Kd.heap_slice _ (Kd.heap_int _)) hr1_1) foot_nil))))
  refine cw_ Tryz.func36 fun R_ hR_ => ?_
  refine sr_ fun _ hK1 => ?_
  refine bo_ HS (fun b2 w3 hb2 HS => ?_)
  refine bo_ HS (fun b4 w5 hb4 HS => ?_)
  refine as_ ?_
  refine dn_ hK1 ?_
  refine WC.seq fun _ hK6 => ?_
  refine sr_ fun _ hK7 => ?_
  refine v_ (fa_ Tryz.underlying45) ?_
  refine v_ (lb_ (HS.mu 1 rfl) Tryz.underlying26 rfl) ?_
  refine v_ (fa_ Tryz.underlying45) ?_
  refine v_ (lb_ (HS.mu 0 rfl) Tryz.underlying26 rfl) ?_
  obtain ⟨t8, ha9, H⟩ := bind_some H
  refine cs0_ HS Tryz.func32 (laws_eqIntSS.calls k A0_0 c0_0 x0.f0 A1_0 c1_0 x1.f0 t8 _ (HS.getO 0 rfl) hc0_0 (HS.getO 2 rfl) hc1_0 ha9) (fun w10 HS => ?_)
  refine nt_ ?_
  refine dn_ hK7 ?_
  rcases eti_ H with ⟨c11, H⟩ | ⟨c11, H⟩
  · refine wy_ (nB (bF c11)) ?_
    refine sr_ fun _ hK20 => ?_
    refine as_ ?_
    refine dn_ hK20 ?_
    cases H
    exact rt1 Tryz.f36 rfl rfl hR_ ⟨rfl, HS.b⟩
  refine wn_ (nB c11) ?_
  refine WC.skip ?_
  refine via_ hK6 ?_
  refine WC.seq fun _ hK12 => ?_
  refine sr_ fun _ hK13 => ?_
  refine v_ (fa_ Tryz.underlying45) ?_
  refine v_ (lb_ (HS.mu 1 rfl) Tryz.underlying26 rfl) ?_
  refine v_ (fa_ Tryz.underlying45) ?_
  refine v_ (lb_ (HS.mu 0 rfl) Tryz.underlying26 rfl) ?_
  obtain ⟨t14, ha15, H⟩ := bind_some H
  refine cs0_ HS Tryz.func32 (laws_eqIntSS.calls k A0_1 c0_1 x0.f1 A1_1 c1_1 x1.f1 t14 _ (HS.getO 1 rfl) hc0_1 (HS.getO 3 rfl) hc1_1 ha15) (fun w16 HS => ?_)
  refine nt_ ?_
  refine dn_ hK13 ?_
  rcases eti_ H with ⟨c17, H⟩ | ⟨c17, H⟩
  · refine wy_ (nB (bF c17)) ?_
    refine sr_ fun _ hK19 => ?_
    refine as_ ?_
    refine dn_ hK19 ?_
    cases H
    exact rt1 Tryz.f36 rfl rfl hR_ ⟨rfl, HS.b⟩
  refine wn_ (nB c17) ?_
  refine WC.skip ?_
  refine via_ hK12 ?_
  refine sr_ fun _ hK18 => ?_
  refine as_ ?_
  refine dn_ hK18 ?_
  cases H
  exact rt1 Tryz.f36 rfl rfl hR_ ⟨rfl, HS.b⟩
def spec_l10Matrix.g (k : Nat) (x0 : S44) (a1 : Int) (a2 : Int) : Option Bool := ((spec_MatrixOk.f k x0.f0 x0.f1 x0.f2 x0.f3 x0.f4).bind fun t5 => (if t5 = true then (if x0.f0 = a1 then (if (x0.f1.length : Int) = a2 then ((spec_l10Worst.f k x0.f0 x0.f1 x0.f2 x0.f3 x0.f4).bind fun t11 => (some (decide (t11 ≤ 600000)))) else (some false)) else (some false)) else (some false)))
theorem spec_l10Matrix.runs (k : Nat) (x0 : S44) (A0_1 : Option Addr) (c0_1 : Nat) (A0_2 : Option Addr) (c0_2 : Nat) (a1 : Int) (a2 : Int) (r : Bool) (w : World) (hr0_1 : (Kd.slice 3 (Kd.int .i64)).C w A0_1 x0.f1.length x0.f1) (hc0_1 : x0.f1.length ≤ c0_1) (hr0_2 : (Kd.slice 3 (Kd.int .i64)).C w A0_2 x0.f2.length x0.f2) (hc0_2 : x0.f2.length ≤ c0_2) (H : spec_l10Matrix.g k x0 a1 a2 = some r) :
    Calls Tryz.prog 46 #[.agg #[.int .i64 x0.f0, .slice A0_1 x0.f1.length c0_1, .slice A0_2 x0.f2.length c0_2, .int .i64 x0.f3, .int .i64 x0.f4], .int .i64 a1, .int .i64 a2] w fun e w' => e = .returned (.bool r) ∧ Below w.heap.size w w' := by
  unfold spec_l10Matrix.g at H
  have HS : St (fun _ => True) w w [] [(fun W => (Kd.slice 3 (Kd.int .i64)).C W A0_1 x0.f1.length x0.f1), (fun W => (Kd.slice 3 (Kd.int .i64)).C W A0_2 x0.f2.length x0.f2)] [] := St.start (foot_cons (foot_C (Kd.heap_slice _ (Kd.heap_int _)) hr0_1) (foot_cons (foot_C (Kd.heap_slice _ (Kd.heap_int _)) hr0_2) foot_nil))
  refine cw_ Tryz.func46 fun R_ hR_ => ?_
  refine sr_ fun _ hK1 => ?_
  refine bo_ HS (fun b2 w3 hb2 HS => ?_)
  refine as_ ?_
  refine dn_ hK1 ?_
  refine sr_ fun _ hK4 => ?_
  refine v_ (ls_ (HS.mu 0 rfl) Tryz.underlying44 part_all) ?_
  obtain ⟨t5, ha6, H⟩ := bind_some H
  refine cs_ HS Tryz.func70 (spec_MatrixOk.calls k x0.f0 A0_1 c0_1 x0.f1 A0_2 c0_2 x0.f2 x0.f3 x0.f4 t5 _ (HS.getO 0 rfl) hc0_1 (HS.getO 1 rfl) hc0_2 ha6) (fun w7 HS => ?_)
  refine mv_ ?_
  rcases eti_ H with ⟨c8, H⟩ | ⟨c8, H⟩
  · refine off_ (c' := false) (bF c8) ?_
    refine WL.know 9 (bF c8) ?_
    refine fast_ ?_
    refine via_ hK4 ?_
    cases H
    exact rt1 Tryz.f46 rfl rfl hR_ ⟨rfl, HS.b⟩
  refine on_ c8 ?_
  refine v_ (fa_ Tryz.underlying44) ?_
  refine on_ c8 ?_
  refine v_ (lb_ (HS.mu 0 rfl) Tryz.underlying3 rfl) ?_
  refine on_ c8 ?_
  refine mv_ ?_
  refine on_ c8 ?_
  refine b_ bin_eql ?_
  refine v_ (Run.pickT rfl rfl c8 rfl) ?_
  refine mv_ ?_
  rcases eti_ H with ⟨c9, H⟩ | ⟨c9, H⟩
  · refine off_ (c' := false) (eF c9) ?_
    refine WL.know 15 (eF c9) ?_
    refine fast_ ?_
    refine via_ hK4 ?_
    cases H
    exact rt1 Tryz.f46 rfl rfl hR_ ⟨rfl, HS.b⟩
  refine on_ (eT c9) ?_
  refine v_ (fa_ Tryz.underlying44) ?_
  refine on_ (eT c9) ?_
  refine v_ (lb_ (HS.mu 0 rfl) Tryz.underlying26 rfl) ?_
  refine on_ (eT c9) ?_
  refine ln_ Tryz.underlying26 ?_
  refine on_ (eT c9) ?_
  refine mv_ ?_
  refine on_ (eT c9) ?_
  refine b_ bin_eql ?_
  refine v_ (Run.pickT rfl rfl (eT c9) rfl) ?_
  refine mv_ ?_
  rcases eti_ H with ⟨c10, H⟩ | ⟨c10, H⟩
  · refine off_ (c' := false) (eF c10) ?_
    refine WL.know 22 (eF c10) ?_
    refine fast_ ?_
    refine via_ hK4 ?_
    cases H
    exact rt1 Tryz.f46 rfl rfl hR_ ⟨rfl, HS.b⟩
  refine on_ (eT c10) ?_
  refine v_ (ls_ (HS.mu 0 rfl) Tryz.underlying44 part_all) ?_
  refine on_ (eT c10) ?_
  obtain ⟨t11, ha12, H⟩ := bind_some H
  refine cs_ HS Tryz.func71 (spec_l10Worst.calls k x0.f0 A0_1 c0_1 x0.f1 A0_2 c0_2 x0.f2 x0.f3 x0.f4 t11 _ (HS.getO 0 rfl) hc0_1 (HS.getO 1 rfl) hc0_2 ha12) (fun w13 HS => ?_)
  refine on_ (eT c10) ?_
  refine b_ bin_leq ?_
  refine v_ (Run.pickT rfl rfl (eT c10) rfl) ?_
  refine as_ ?_
  refine dn_ hK4 ?_
  cases H
  exact rt1 Tryz.f46 rfl rfl hR_ ⟨rfl, HS.b⟩
def spec_LayerOk.g (k : Nat) (x0 : S86) (a1 : Int) : Option Bool := ((spec_l05Width.f a1).bind fun t10 => (if t10 = true then ((spec_l05Width.f (x0.f6.f1.length : Int)).bind fun t14 => (if t14 = true then ((spec_GainOk.f k x0.f0 a1).bind fun t22 => (if t22 = true then ((spec_GainOk.f k x0.f5 a1).bind fun t30 => (if t30 = true then ((spec_l10Matrix.g k x0.f1 a1 a1).bind fun t42 => (if t42 = true then ((spec_l10Matrix.g k x0.f2 a1 a1).bind fun t54 => (if t54 = true then ((spec_l10Matrix.g k x0.f3 a1 a1).bind fun t66 => (if t66 = true then ((spec_l10Matrix.g k x0.f4 a1 a1).bind fun t78 => (if t78 = true then ((spec_l10Matrix.g k x0.f6 a1 (x0.f6.f1.length : Int)).bind fun t86 => (if t86 = true then ((spec_l10Matrix.g k x0.f7 (x0.f6.f1.length : Int) a1).bind fun t98 => (some t98)) else (some false))) else (some false))) else (some false))) else (some false))) else (some false))) else (some false))) else (some false))) else (some false))) else (some false)))
theorem spec_LayerOk.runs (k : Nat) (cs0 : List Value) (x0 : S86) (a1 : Int) (r : Bool) (w : World) (hk0 : k86.K w x0 cs0) (H : spec_LayerOk.g k x0 a1 = some r) :
    Calls Tryz.prog 44 #[.agg cs0.toArray, .int .i64 a1] w fun e w' => e = .returned (.bool r) ∧ Below w.heap.size w w' := by
  have el0 : cs0.length = 32 := k86.K_len hk0
  unfold spec_LayerOk.g at H
  have HS : St (fun _ => True) w w [] [(fun W => k86.K W x0 cs0)] [] := St.start (foot_cons (foot_K h86 hk0) foot_nil)
  refine cw_ Tryz.func44 fun R_ hR_ => ?_
  refine sr_ fun _ hK1 => ?_
  refine bo_ HS (fun b2 w3 hb2 HS => ?_)
  refine as_ ?_
  refine dn_ hK1 ?_
  refine sr_ fun _ hK4 => ?_
  refine v_ (fa_ Tryz.underlying86) ?_
  refine v_ (fa_ Tryz.underlying44) ?_
  obtain ⟨A5, c6, hc7, le8, HS⟩ := HS.sO 0 rfl at86_23
  refine v_ (lb_ (HS.mu 0 rfl) Tryz.underlying26 hc7) ?_
  refine ln_ Tryz.underlying26 ?_
  refine as_ ?_
  refine dn_ hK4 ?_
  refine sr_ fun _ hK9 => ?_
  refine mv_ ?_
  obtain ⟨t10, ha11, H⟩ := bind_some H
  refine cs0_ HS Tryz.func39 (spec_l05Width.calls a1 t10 _ ha11) (fun w12 HS => ?_)
  refine mv_ ?_
  rcases eti_ H with ⟨c13, H⟩ | ⟨c13, H⟩
  · refine off_ (c' := false) (bF c13) ?_
    refine WL.know 12 (bF c13) ?_
    refine fast_ ?_
    refine via_ hK9 ?_
    cases H
    exact rt1 Tryz.f44 rfl rfl hR_ ⟨rfl, HS.b⟩
  refine on_ c13 ?_
  refine mv_ ?_
  refine on_ c13 ?_
  obtain ⟨t14, ha15, H⟩ := bind_some H
  refine cs0_ HS Tryz.func39 (spec_l05Width.calls (x0.f6.f1.length : Int) t14 _ ha15) (fun w16 HS => ?_)
  refine v_ (Run.pickT rfl rfl c13 rfl) ?_
  refine mv_ ?_
  rcases eti_ H with ⟨c17, H⟩ | ⟨c17, H⟩
  · refine off_ (c' := false) (bF c17) ?_
    refine WL.know 16 (bF c17) ?_
    refine fast_ ?_
    refine via_ hK9 ?_
    cases H
    exact rt1 Tryz.f44 rfl rfl hR_ ⟨rfl, HS.b⟩
  refine on_ c17 ?_
  refine v_ (fa_ Tryz.underlying86) ?_
  refine on_ c17 ?_
  obtain ⟨A18, c19, hc20, le21, HS⟩ := HS.sO 1 rfl at86_0
  refine v_ (lb_ (HS.mu 0 rfl) Tryz.underlying28 hc20) ?_
  refine on_ c17 ?_
  refine mv_ ?_
  refine on_ c17 ?_
  obtain ⟨t22, ha23, H⟩ := bind_some H
  refine cs0_ HS Tryz.func45 (spec_GainOk.calls k A18 c19 x0.f0 a1 t22 _ (HS.getO 0 rfl) le21 ha23) (fun w24 HS => ?_)
  refine v_ (Run.pickT rfl rfl c17 rfl) ?_
  refine mv_ ?_
  rcases eti_ H with ⟨c25, H⟩ | ⟨c25, H⟩
  · refine off_ (c' := false) (bF c25) ?_
    refine WL.know 22 (bF c25) ?_
    refine fast_ ?_
    refine via_ hK9 ?_
    cases H
    exact rt1 Tryz.f44 rfl rfl hR_ ⟨rfl, HS.b⟩
  refine on_ c25 ?_
  refine v_ (fa_ Tryz.underlying86) ?_
  refine on_ c25 ?_
  obtain ⟨A26, c27, hc28, le29, HS⟩ := HS.sO 2 rfl at86_21
  refine v_ (lb_ (HS.mu 0 rfl) Tryz.underlying28 hc28) ?_
  refine on_ c25 ?_
  refine mv_ ?_
  refine on_ c25 ?_
  obtain ⟨t30, ha31, H⟩ := bind_some H
  refine cs0_ HS Tryz.func45 (spec_GainOk.calls k A26 c27 x0.f5 a1 t30 _ (HS.getO 0 rfl) le29 ha31) (fun w32 HS => ?_)
  refine v_ (Run.pickT rfl rfl c25 rfl) ?_
  refine mv_ ?_
  rcases eti_ H with ⟨c33, H⟩ | ⟨c33, H⟩
  · refine off_ (c' := false) (bF c33) ?_
    refine WL.know 28 (bF c33) ?_
    refine fast_ ?_
    refine via_ hK9 ?_
    cases H
    exact rt1 Tryz.f44 rfl rfl hR_ ⟨rfl, HS.b⟩
  refine on_ c33 ?_
  refine v_ (fa_ Tryz.underlying86) ?_
  refine on_ c33 ?_
  obtain ⟨A34, c35, hc36, le37, HS⟩ := HS.sO 3 rfl at86_2
  obtain ⟨A38, c39, hc40, le41, HS⟩ := HS.sO 4 rfl at86_3
  refine v_ (ls_ (HS.mu 0 rfl) Tryz.underlying44 (part_cons (at86_1 (HS.aO 5 rfl)).int (part_cons hc36 (part_cons hc40 (part_cons (at86_4 (HS.aO 5 rfl)).int (part_cons (at86_5 (HS.aO 5 rfl)).int part_nil)))))) ?_
  refine on_ c33 ?_
  refine mv_ ?_
  refine on_ c33 ?_
  refine mv_ ?_
  refine on_ c33 ?_
  obtain ⟨t42, ha43, H⟩ := bind_some H
  refine cs_ HS Tryz.func46 (spec_l10Matrix.runs k x0.f1 A34 c35 A38 c39 a1 a1 t42 _ (HS.getO 1 rfl) le37 (HS.getO 0 rfl) le41 ha43) (fun w44 HS => ?_)
  refine v_ (Run.pickT rfl rfl c33 rfl) ?_
  refine mv_ ?_
  rcases eti_ H with ⟨c45, H⟩ | ⟨c45, H⟩
  · refine off_ (c' := false) (bF c45) ?_
    refine WL.know 35 (bF c45) ?_
    refine fast_ ?_
    refine via_ hK9 ?_
    cases H
    exact rt1 Tryz.f44 rfl rfl hR_ ⟨rfl, HS.b⟩
  refine on_ c45 ?_
  refine v_ (fa_ Tryz.underlying86) ?_
  refine on_ c45 ?_
  obtain ⟨A46, c47, hc48, le49, HS⟩ := HS.sO 5 rfl at86_7
  obtain ⟨A50, c51, hc52, le53, HS⟩ := HS.sO 6 rfl at86_8
  refine v_ (ls_ (HS.mu 0 rfl) Tryz.underlying44 (part_cons (at86_6 (HS.aO 7 rfl)).int (part_cons hc48 (part_cons hc52 (part_cons (at86_9 (HS.aO 7 rfl)).int (part_cons (at86_10 (HS.aO 7 rfl)).int part_nil)))))) ?_
  refine on_ c45 ?_
  refine mv_ ?_
  refine on_ c45 ?_
  refine mv_ ?_
  refine on_ c45 ?_
  obtain ⟨t54, ha55, H⟩ := bind_some H
  refine cs_ HS Tryz.func46 (spec_l10Matrix.runs k x0.f2 A46 c47 A50 c51 a1 a1 t54 _ (HS.getO 1 rfl) le49 (HS.getO 0 rfl) le53 ha55) (fun w56 HS => ?_)
  refine v_ (Run.pickT rfl rfl c45 rfl) ?_
  refine mv_ ?_
  rcases eti_ H with ⟨c57, H⟩ | ⟨c57, H⟩
  · refine off_ (c' := false) (bF c57) ?_
    refine WL.know 42 (bF c57) ?_
    refine fast_ ?_
    refine via_ hK9 ?_
    cases H
    exact rt1 Tryz.f44 rfl rfl hR_ ⟨rfl, HS.b⟩
  refine on_ c57 ?_
  refine v_ (fa_ Tryz.underlying86) ?_
  refine on_ c57 ?_
  obtain ⟨A58, c59, hc60, le61, HS⟩ := HS.sO 7 rfl at86_12
  obtain ⟨A62, c63, hc64, le65, HS⟩ := HS.sO 8 rfl at86_13
  refine v_ (ls_ (HS.mu 0 rfl) Tryz.underlying44 (part_cons (at86_11 (HS.aO 9 rfl)).int (part_cons hc60 (part_cons hc64 (part_cons (at86_14 (HS.aO 9 rfl)).int (part_cons (at86_15 (HS.aO 9 rfl)).int part_nil)))))) ?_
  refine on_ c57 ?_
  refine mv_ ?_
  refine on_ c57 ?_
  refine mv_ ?_
  refine on_ c57 ?_
  obtain ⟨t66, ha67, H⟩ := bind_some H
  refine cs_ HS Tryz.func46 (spec_l10Matrix.runs k x0.f3 A58 c59 A62 c63 a1 a1 t66 _ (HS.getO 1 rfl) le61 (HS.getO 0 rfl) le65 ha67) (fun w68 HS => ?_)
  refine v_ (Run.pickT rfl rfl c57 rfl) ?_
  refine mv_ ?_
  rcases eti_ H with ⟨c69, H⟩ | ⟨c69, H⟩
  · refine off_ (c' := false) (bF c69) ?_
    refine WL.know 49 (bF c69) ?_
    refine fast_ ?_
    refine via_ hK9 ?_
    cases H
    exact rt1 Tryz.f44 rfl rfl hR_ ⟨rfl, HS.b⟩
  refine on_ c69 ?_
  refine v_ (fa_ Tryz.underlying86) ?_
  refine on_ c69 ?_
  obtain ⟨A70, c71, hc72, le73, HS⟩ := HS.sO 9 rfl at86_17
  obtain ⟨A74, c75, hc76, le77, HS⟩ := HS.sO 10 rfl at86_18
  refine v_ (ls_ (HS.mu 0 rfl) Tryz.underlying44 (part_cons (at86_16 (HS.aO 11 rfl)).int (part_cons hc72 (part_cons hc76 (part_cons (at86_19 (HS.aO 11 rfl)).int (part_cons (at86_20 (HS.aO 11 rfl)).int part_nil)))))) ?_
  refine on_ c69 ?_
  refine mv_ ?_
  refine on_ c69 ?_
  refine mv_ ?_
  refine on_ c69 ?_
  obtain ⟨t78, ha79, H⟩ := bind_some H
  refine cs_ HS Tryz.func46 (spec_l10Matrix.runs k x0.f4 A70 c71 A74 c75 a1 a1 t78 _ (HS.getO 1 rfl) le73 (HS.getO 0 rfl) le77 ha79) (fun w80 HS => ?_)
  refine v_ (Run.pickT rfl rfl c69 rfl) ?_
  refine mv_ ?_
  rcases eti_ H with ⟨c81, H⟩ | ⟨c81, H⟩
  · refine off_ (c' := false) (bF c81) ?_
    refine WL.know 56 (bF c81) ?_
    refine fast_ ?_
    refine via_ hK9 ?_
    cases H
    exact rt1 Tryz.f44 rfl rfl hR_ ⟨rfl, HS.b⟩
  refine on_ c81 ?_
  refine v_ (fa_ Tryz.underlying86) ?_
  refine on_ c81 ?_
  obtain ⟨A82, c83, hc84, le85, HS⟩ := HS.sO 11 rfl at86_24
  refine v_ (ls_ (HS.mu 0 rfl) Tryz.underlying44 (part_cons (at86_22 (HS.aO 12 rfl)).int (part_cons hc7 (part_cons hc84 (part_cons (at86_25 (HS.aO 12 rfl)).int (part_cons (at86_26 (HS.aO 12 rfl)).int part_nil)))))) ?_
  refine on_ c81 ?_
  refine mv_ ?_
  refine on_ c81 ?_
  refine mv_ ?_
  refine on_ c81 ?_
  obtain ⟨t86, ha87, H⟩ := bind_some H
  refine cs_ HS Tryz.func46 (spec_l10Matrix.runs k x0.f6 A5 c6 A82 c83 a1 (x0.f6.f1.length : Int) t86 _ (HS.getO 11 rfl) le8 (HS.getO 0 rfl) le85 ha87) (fun w88 HS => ?_)
  refine v_ (Run.pickT rfl rfl c81 rfl) ?_
  refine mv_ ?_
  rcases eti_ H with ⟨c89, H⟩ | ⟨c89, H⟩
  · refine off_ (c' := false) (bF c89) ?_
    refine WL.know 63 (bF c89) ?_
    refine fast_ ?_
    refine via_ hK9 ?_
    cases H
    exact rt1 Tryz.f44 rfl rfl hR_ ⟨rfl, HS.b⟩
  refine on_ c89 ?_
  refine v_ (fa_ Tryz.underlying86) ?_
  refine on_ c89 ?_
  obtain ⟨A90, c91, hc92, le93, HS⟩ := HS.sO 12 rfl at86_28
  obtain ⟨A94, c95, hc96, le97, HS⟩ := HS.sO 13 rfl at86_29
  refine v_ (ls_ (HS.mu 0 rfl) Tryz.underlying44 (part_cons (at86_27 (HS.aO 14 rfl)).int (part_cons hc92 (part_cons hc96 (part_cons (at86_30 (HS.aO 14 rfl)).int (part_cons (at86_31 (HS.aO 14 rfl)).int part_nil)))))) ?_
  refine on_ c89 ?_
  refine mv_ ?_
  refine on_ c89 ?_
  refine mv_ ?_
  refine on_ c89 ?_
  obtain ⟨t98, ha99, H⟩ := bind_some H
  refine cs_ HS Tryz.func46 (spec_l10Matrix.runs k x0.f7 A90 c91 A94 c95 (x0.f6.f1.length : Int) a1 t98 _ (HS.getO 1 rfl) le93 (HS.getO 0 rfl) le97 ha99) (fun w100 HS => ?_)
  refine v_ (Run.pickT rfl rfl c89 rfl) ?_
  refine as_ ?_
  refine dn_ hK9 ?_
  cases H
  exact rt1 Tryz.f44 rfl rfl hR_ ⟨rfl, HS.b⟩
def spec_Vocab.g (k : Nat) (x0 : S47) : Option Int := (some (wrap64 (256 + (x0.f3.length : Int))))
theorem spec_Vocab.runs (k : Nat) (cs0 : List Value) (x0 : S47) (r : Int) (w : World) (hk0 : k47.K w x0 cs0) (H : spec_Vocab.g k x0 = some r) :
    Calls Tryz.prog 41 #[.agg cs0.toArray] w fun e w' => e = .returned (.int .i64 r) ∧ Below w.heap.size w w' := by
  have el0 : cs0.length = 14 := k47.K_len hk0
  unfold spec_Vocab.g at H
  have HS : St (fun _ => True) w w [] [(fun W => k47.K W x0 cs0)] [] := St.start (foot_cons (foot_K h47 hk0) foot_nil)
  refine cw_ Tryz.func41 fun R_ hR_ => ?_
  refine sr_ fun _ hK1 => ?_
  refine bo_ HS (fun b2 w3 hb2 HS => ?_)
  refine as_ ?_
  refine dn_ hK1 ?_
  refine sr_ fun _ hK4 => ?_
  refine v_ (fa_ Tryz.underlying47) ?_
  obtain ⟨A5, c6, hc7, le8, HS⟩ := HS.sO 0 rfl at47_3
  refine v_ (lb_ (HS.mu 0 rfl) Tryz.underlying42 hc7) ?_
  refine ln_ Tryz.underlying42 ?_
  refine b_ bin_add64 ?_
  refine as_ ?_
  refine dn_ hK4 ?_
  cases H
  exact rt1 Tryz.f41 rfl rfl hR_ ⟨rfl, HS.b⟩
end Go.Proofs.YtacbkcofcbglhaaGreat.PFnExactCellOk
