/- Functions that the statement reaches, as Lean functions, and the proof that a call of each comes to just its answer; written by this claim's own program. No conditions. -/
import Derived.Test.YtacbkcofcbglhaaPFnExactVocabx0
import Derived.Test.YtacbkcofcbglhaaPFnExactVocabx1
import Derived.Test.YtacbkcofcbglhaaPFnExactVocabx2
import Derived.Test.YtacbkcofcbglhaaPFnExactVocabx3
import Derived.Test.YtacbkcofcbglhaaVFnExactVocab0
namespace Go.Proofs.Ytacbkcofcbglhaa.PFnExactVocab
open Go.RowKit Go.Proofs.YtacbkcofcbglhaaW.PrintWords Go.Proofs.YtacbkcofcbglhaaW.PrintLast Go.Proofs.YtacbkcofcbglhaaW.PrintMore Go.Proofs.Ytacbkcofcbglhaa.XW Go.Proofs.Ytacbkcofcbglhaa.XOp Go.Proofs.Ytacbkcofcbglhaa.XSt Go.Proofs.Ytacbkcofcbglhaa.XDraw
set_option linter.unusedVariables false
set_option linter.unusedSimpArgs false
structure S27 where
  f0 : Int
  f1 : List (List Int)
  f2 : List (List Int)
  f3 : Int
  f4 : Int
def k27 : Kd S27 := Kd.iso (Kd.pair (Kd.int .i64) (Kd.pair (Kd.slice 25 (Kd.slice 3 (Kd.int .i64))) (Kd.pair (Kd.slice 25 (Kd.slice 3 (Kd.int .i64))) (Kd.pair (Kd.int .i64) (Kd.int .i64))))) (fun x : S27 => (x.f0, x.f1, x.f2, x.f3, x.f4))
structure S44 where
  f0 : List Int
  f1 : S27
  f2 : S27
  f3 : S27
  f4 : S27
  f5 : List Int
  f6 : S27
  f7 : S27
def k44 : Kd S44 := Kd.iso (Kd.pair (Kd.slice 3 (Kd.int .i64)) (Kd.pair k27 (Kd.pair k27 (Kd.pair k27 (Kd.pair k27 (Kd.pair (Kd.slice 3 (Kd.int .i64)) (Kd.pair k27 k27))))))) (fun x : S44 => (x.f0, x.f1, x.f2, x.f3, x.f4, x.f5, x.f6, x.f7))
structure S29 where
  f0 : List (List Int)
  f1 : List (List Int)
def k29 : Kd S29 := Kd.iso (Kd.pair (Kd.slice 25 (Kd.slice 3 (Kd.int .i64))) (Kd.slice 25 (Kd.slice 3 (Kd.int .i64)))) (fun x : S29 => (x.f0, x.f1))
structure S31 where
  f0 : Int
  f1 : Int
  f2 : Int
  f3 : List S129
  f4 : List (List Int)
  f5 : List S44
  f6 : List Int
  f7 : S27
  f8 : S29
def k31 : Kd S31 := Kd.iso (Kd.pair (Kd.int .i64) (Kd.pair (Kd.int .i64) (Kd.pair (Kd.int .i64) (Kd.pair (Kd.slice 129 k129) (Kd.pair (Kd.slice 25 (Kd.slice 3 (Kd.int .i64))) (Kd.pair (Kd.slice 44 k44) (Kd.pair (Kd.slice 3 (Kd.int .i64)) (Kd.pair k27 k29)))))))) (fun x : S31 => (x.f0, x.f1, x.f2, x.f3, x.f4, x.f5, x.f6, x.f7, x.f8))
structure S36 where
  f0 : Int
  f1 : List (List Int)
  f2 : List (List Int)
  f3 : Int
  f4 : Int
def k36 : Kd S36 := Kd.iso (Kd.pair (Kd.int .i64) (Kd.pair (Kd.slice 25 (Kd.slice 3 (Kd.int .i64))) (Kd.pair (Kd.slice 25 (Kd.slice 3 (Kd.int .i64))) (Kd.pair (Kd.int .i64) (Kd.int .i64))))) (fun x : S36 => (x.f0, x.f1, x.f2, x.f3, x.f4))
structure S48 where
  f0 : List Int
  f1 : S36
  f2 : S36
  f3 : S36
  f4 : S36
  f5 : List Int
  f6 : S36
  f7 : S36
def k48 : Kd S48 := Kd.iso (Kd.pair (Kd.slice 3 (Kd.int .i64)) (Kd.pair k36 (Kd.pair k36 (Kd.pair k36 (Kd.pair k36 (Kd.pair (Kd.slice 3 (Kd.int .i64)) (Kd.pair k36 k36))))))) (fun x : S48 => (x.f0, x.f1, x.f2, x.f3, x.f4, x.f5, x.f6, x.f7))
theorem k48_mk (w : World) (x : S48) {A0 : Option Addr} {c0 : Nat} (l0 : x.f0.length ≤ c0) (g0 : (Kd.int .i64).C w A0 x.f0.length x.f0) {A2 : Option Addr} {c2 : Nat} (l2 : x.f1.f1.length ≤ c2) (g2 : (Kd.slice 3 (Kd.int .i64)).C w A2 x.f1.f1.length x.f1.f1) {A3 : Option Addr} {c3 : Nat} (l3 : x.f1.f2.length ≤ c3) (g3 : (Kd.slice 3 (Kd.int .i64)).C w A3 x.f1.f2.length x.f1.f2) {A7 : Option Addr} {c7 : Nat} (l7 : x.f2.f1.length ≤ c7) (g7 : (Kd.slice 3 (Kd.int .i64)).C w A7 x.f2.f1.length x.f2.f1) {A8 : Option Addr} {c8 : Nat} (l8 : x.f2.f2.length ≤ c8) (g8 : (Kd.slice 3 (Kd.int .i64)).C w A8 x.f2.f2.length x.f2.f2) {A12 : Option Addr} {c12 : Nat} (l12 : x.f3.f1.length ≤ c12) (g12 : (Kd.slice 3 (Kd.int .i64)).C w A12 x.f3.f1.length x.f3.f1) {A13 : Option Addr} {c13 : Nat} (l13 : x.f3.f2.length ≤ c13) (g13 : (Kd.slice 3 (Kd.int .i64)).C w A13 x.f3.f2.length x.f3.f2) {A17 : Option Addr} {c17 : Nat} (l17 : x.f4.f1.length ≤ c17) (g17 : (Kd.slice 3 (Kd.int .i64)).C w A17 x.f4.f1.length x.f4.f1) {A18 : Option Addr} {c18 : Nat} (l18 : x.f4.f2.length ≤ c18) (g18 : (Kd.slice 3 (Kd.int .i64)).C w A18 x.f4.f2.length x.f4.f2) {A21 : Option Addr} {c21 : Nat} (l21 : x.f5.length ≤ c21) (g21 : (Kd.int .i64).C w A21 x.f5.length x.f5) {A23 : Option Addr} {c23 : Nat} (l23 : x.f6.f1.length ≤ c23) (g23 : (Kd.slice 3 (Kd.int .i64)).C w A23 x.f6.f1.length x.f6.f1) {A24 : Option Addr} {c24 : Nat} (l24 : x.f6.f2.length ≤ c24) (g24 : (Kd.slice 3 (Kd.int .i64)).C w A24 x.f6.f2.length x.f6.f2) {A28 : Option Addr} {c28 : Nat} (l28 : x.f7.f1.length ≤ c28) (g28 : (Kd.slice 3 (Kd.int .i64)).C w A28 x.f7.f1.length x.f7.f1) {A29 : Option Addr} {c29 : Nat} (l29 : x.f7.f2.length ≤ c29) (g29 : (Kd.slice 3 (Kd.int .i64)).C w A29 x.f7.f2.length x.f7.f2) : k48.K w x [.slice A0 x.f0.length c0, .int .i64 x.f1.f0, .slice A2 x.f1.f1.length c2, .slice A3 x.f1.f2.length c3, .int .i64 x.f1.f3, .int .i64 x.f1.f4, .int .i64 x.f2.f0, .slice A7 x.f2.f1.length c7, .slice A8 x.f2.f2.length c8, .int .i64 x.f2.f3, .int .i64 x.f2.f4, .int .i64 x.f3.f0, .slice A12 x.f3.f1.length c12, .slice A13 x.f3.f2.length c13, .int .i64 x.f3.f3, .int .i64 x.f3.f4, .int .i64 x.f4.f0, .slice A17 x.f4.f1.length c17, .slice A18 x.f4.f2.length c18, .int .i64 x.f4.f3, .int .i64 x.f4.f4, .slice A21 x.f5.length c21, .int .i64 x.f6.f0, .slice A23 x.f6.f1.length c23, .slice A24 x.f6.f2.length c24, .int .i64 x.f6.f3, .int .i64 x.f6.f4, .int .i64 x.f7.f0, .slice A28 x.f7.f1.length c28, .slice A29 x.f7.f2.length c29, .int .i64 x.f7.f3, .int .i64 x.f7.f4] := ⟨[.slice A0 x.f0.length c0], [.int .i64 x.f1.f0, .slice A2 x.f1.f1.length c2, .slice A3 x.f1.f2.length c3, .int .i64 x.f1.f3, .int .i64 x.f1.f4, .int .i64 x.f2.f0, .slice A7 x.f2.f1.length c7, .slice A8 x.f2.f2.length c8, .int .i64 x.f2.f3, .int .i64 x.f2.f4, .int .i64 x.f3.f0, .slice A12 x.f3.f1.length c12, .slice A13 x.f3.f2.length c13, .int .i64 x.f3.f3, .int .i64 x.f3.f4, .int .i64 x.f4.f0, .slice A17 x.f4.f1.length c17, .slice A18 x.f4.f2.length c18, .int .i64 x.f4.f3, .int .i64 x.f4.f4, .slice A21 x.f5.length c21, .int .i64 x.f6.f0, .slice A23 x.f6.f1.length c23, .slice A24 x.f6.f2.length c24, .int .i64 x.f6.f3, .int .i64 x.f6.f4, .int .i64 x.f7.f0, .slice A28 x.f7.f1.length c28, .slice A29 x.f7.f2.length c29, .int .i64 x.f7.f3, .int .i64 x.f7.f4], rfl, ⟨A0, c0, rfl, l0, g0⟩, ⟨[.int .i64 x.f1.f0, .slice A2 x.f1.f1.length c2, .slice A3 x.f1.f2.length c3, .int .i64 x.f1.f3, .int .i64 x.f1.f4], [.int .i64 x.f2.f0, .slice A7 x.f2.f1.length c7, .slice A8 x.f2.f2.length c8, .int .i64 x.f2.f3, .int .i64 x.f2.f4, .int .i64 x.f3.f0, .slice A12 x.f3.f1.length c12, .slice A13 x.f3.f2.length c13, .int .i64 x.f3.f3, .int .i64 x.f3.f4, .int .i64 x.f4.f0, .slice A17 x.f4.f1.length c17, .slice A18 x.f4.f2.length c18, .int .i64 x.f4.f3, .int .i64 x.f4.f4, .slice A21 x.f5.length c21, .int .i64 x.f6.f0, .slice A23 x.f6.f1.length c23, .slice A24 x.f6.f2.length c24, .int .i64 x.f6.f3, .int .i64 x.f6.f4, .int .i64 x.f7.f0, .slice A28 x.f7.f1.length c28, .slice A29 x.f7.f2.length c29, .int .i64 x.f7.f3, .int .i64 x.f7.f4], rfl, ⟨[.int .i64 x.f1.f0], [.slice A2 x.f1.f1.length c2, .slice A3 x.f1.f2.length c3, .int .i64 x.f1.f3, .int .i64 x.f1.f4], rfl, rfl, ⟨[.slice A2 x.f1.f1.length c2], [.slice A3 x.f1.f2.length c3, .int .i64 x.f1.f3, .int .i64 x.f1.f4], rfl, ⟨A2, c2, rfl, l2, g2⟩, ⟨[.slice A3 x.f1.f2.length c3], [.int .i64 x.f1.f3, .int .i64 x.f1.f4], rfl, ⟨A3, c3, rfl, l3, g3⟩, ⟨[.int .i64 x.f1.f3], [.int .i64 x.f1.f4], rfl, rfl, rfl⟩⟩⟩⟩, ⟨[.int .i64 x.f2.f0, .slice A7 x.f2.f1.length c7, .slice A8 x.f2.f2.length c8, .int .i64 x.f2.f3, .int .i64 x.f2.f4], [.int .i64 x.f3.f0, .slice A12 x.f3.f1.length c12, .slice A13 x.f3.f2.length c13, .int .i64 x.f3.f3, .int .i64 x.f3.f4, .int .i64 x.f4.f0, .slice A17 x.f4.f1.length c17, .slice A18 x.f4.f2.length c18, .int .i64 x.f4.f3, .int .i64 x.f4.f4, .slice A21 x.f5.length c21, .int .i64 x.f6.f0, .slice A23 x.f6.f1.length c23, .slice A24 x.f6.f2.length c24, .int .i64 x.f6.f3, .int .i64 x.f6.f4, .int .i64 x.f7.f0, .slice A28 x.f7.f1.length c28, .slice A29 x.f7.f2.length c29, .int .i64 x.f7.f3, .int .i64 x.f7.f4], rfl, ⟨[.int .i64 x.f2.f0], [.slice A7 x.f2.f1.length c7, .slice A8 x.f2.f2.length c8, .int .i64 x.f2.f3, .int .i64 x.f2.f4], rfl, rfl, ⟨[.slice A7 x.f2.f1.length c7], [.slice A8 x.f2.f2.length c8, .int .i64 x.f2.f3, .int .i64 x.f2.f4], rfl, ⟨A7, c7, rfl, l7, g7⟩, ⟨[.slice A8 x.f2.f2.length c8], [.int .i64 x.f2.f3, .int .i64 x.f2.f4], rfl, ⟨A8, c8, rfl, l8, g8⟩, ⟨[.int .i64 x.f2.f3], [.int .i64 x.f2.f4], rfl, rfl, rfl⟩⟩⟩⟩, ⟨[.int .i64 x.f3.f0, .slice A12 x.f3.f1.length c12, .slice A13 x.f3.f2.length c13, .int .i64 x.f3.f3, .int .i64 x.f3.f4], [.int .i64 x.f4.f0, .slice A17 x.f4.f1.length c17, .slice A18 x.f4.f2.length c18, .int .i64 x.f4.f3, .int .i64 x.f4.f4, .slice A21 x.f5.length c21, .int .i64 x.f6.f0, .slice A23 x.f6.f1.length c23, .slice A24 x.f6.f2.length c24, .int .i64 x.f6.f3, .int .i64 x.f6.f4, .int .i64 x.f7.f0, .slice A28 x.f7.f1.length c28, .slice A29 x.f7.f2.length c29, .int .i64 x.f7.f3, .int .i64 x.f7.f4], rfl, ⟨[.int .i64 x.f3.f0], [.slice A12 x.f3.f1.length c12, .slice A13 x.f3.f2.length c13, .int .i64 x.f3.f3, .int .i64 x.f3.f4], rfl, rfl, ⟨[.slice A12 x.f3.f1.length c12], [.slice A13 x.f3.f2.length c13, .int .i64 x.f3.f3, .int .i64 x.f3.f4], rfl, ⟨A12, c12, rfl, l12, g12⟩, ⟨[.slice A13 x.f3.f2.length c13], [.int .i64 x.f3.f3, .int .i64 x.f3.f4], rfl, ⟨A13, c13, rfl, l13, g13⟩, ⟨[.int .i64 x.f3.f3], [.int .i64 x.f3.f4], rfl, rfl, rfl⟩⟩⟩⟩, ⟨[.int .i64 x.f4.f0, .slice A17 x.f4.f1.length c17, .slice A18 x.f4.f2.length c18, .int .i64 x.f4.f3, .int .i64 x.f4.f4], [.slice A21 x.f5.length c21, .int .i64 x.f6.f0, .slice A23 x.f6.f1.length c23, .slice A24 x.f6.f2.length c24, .int .i64 x.f6.f3, .int .i64 x.f6.f4, .int .i64 x.f7.f0, .slice A28 x.f7.f1.length c28, .slice A29 x.f7.f2.length c29, .int .i64 x.f7.f3, .int .i64 x.f7.f4], rfl, ⟨[.int .i64 x.f4.f0], [.slice A17 x.f4.f1.length c17, .slice A18 x.f4.f2.length c18, .int .i64 x.f4.f3, .int .i64 x.f4.f4], rfl, rfl, ⟨[.slice A17 x.f4.f1.length c17], [.slice A18 x.f4.f2.length c18, .int .i64 x.f4.f3, .int .i64 x.f4.f4], rfl, ⟨A17, c17, rfl, l17, g17⟩, ⟨[.slice A18 x.f4.f2.length c18], [.int .i64 x.f4.f3, .int .i64 x.f4.f4], rfl, ⟨A18, c18, rfl, l18, g18⟩, ⟨[.int .i64 x.f4.f3], [.int .i64 x.f4.f4], rfl, rfl, rfl⟩⟩⟩⟩, ⟨[.slice A21 x.f5.length c21], [.int .i64 x.f6.f0, .slice A23 x.f6.f1.length c23, .slice A24 x.f6.f2.length c24, .int .i64 x.f6.f3, .int .i64 x.f6.f4, .int .i64 x.f7.f0, .slice A28 x.f7.f1.length c28, .slice A29 x.f7.f2.length c29, .int .i64 x.f7.f3, .int .i64 x.f7.f4], rfl, ⟨A21, c21, rfl, l21, g21⟩, ⟨[.int .i64 x.f6.f0, .slice A23 x.f6.f1.length c23, .slice A24 x.f6.f2.length c24, .int .i64 x.f6.f3, .int .i64 x.f6.f4], [.int .i64 x.f7.f0, .slice A28 x.f7.f1.length c28, .slice A29 x.f7.f2.length c29, .int .i64 x.f7.f3, .int .i64 x.f7.f4], rfl, ⟨[.int .i64 x.f6.f0], [.slice A23 x.f6.f1.length c23, .slice A24 x.f6.f2.length c24, .int .i64 x.f6.f3, .int .i64 x.f6.f4], rfl, rfl, ⟨[.slice A23 x.f6.f1.length c23], [.slice A24 x.f6.f2.length c24, .int .i64 x.f6.f3, .int .i64 x.f6.f4], rfl, ⟨A23, c23, rfl, l23, g23⟩, ⟨[.slice A24 x.f6.f2.length c24], [.int .i64 x.f6.f3, .int .i64 x.f6.f4], rfl, ⟨A24, c24, rfl, l24, g24⟩, ⟨[.int .i64 x.f6.f3], [.int .i64 x.f6.f4], rfl, rfl, rfl⟩⟩⟩⟩, ⟨[.int .i64 x.f7.f0], [.slice A28 x.f7.f1.length c28, .slice A29 x.f7.f2.length c29, .int .i64 x.f7.f3, .int .i64 x.f7.f4], rfl, rfl, ⟨[.slice A28 x.f7.f1.length c28], [.slice A29 x.f7.f2.length c29, .int .i64 x.f7.f3, .int .i64 x.f7.f4], rfl, ⟨A28, c28, rfl, l28, g28⟩, ⟨[.slice A29 x.f7.f2.length c29], [.int .i64 x.f7.f3, .int .i64 x.f7.f4], rfl, ⟨A29, c29, rfl, l29, g29⟩, ⟨[.int .i64 x.f7.f3], [.int .i64 x.f7.f4], rfl, rfl, rfl⟩⟩⟩⟩⟩⟩⟩⟩⟩⟩⟩
structure S37 where
  f0 : List (List Int)
  f1 : List (List Int)
def k37 : Kd S37 := Kd.iso (Kd.pair (Kd.slice 25 (Kd.slice 3 (Kd.int .i64))) (Kd.slice 25 (Kd.slice 3 (Kd.int .i64)))) (fun x : S37 => (x.f0, x.f1))
structure S39 where
  f0 : Int
  f1 : Int
  f2 : Int
  f3 : List S112
  f4 : List (List Int)
  f5 : List S48
  f6 : List Int
  f7 : S36
  f8 : S37
def k39 : Kd S39 := Kd.iso (Kd.pair (Kd.int .i64) (Kd.pair (Kd.int .i64) (Kd.pair (Kd.int .i64) (Kd.pair (Kd.slice 112 k112) (Kd.pair (Kd.slice 25 (Kd.slice 3 (Kd.int .i64))) (Kd.pair (Kd.slice 48 k48) (Kd.pair (Kd.slice 3 (Kd.int .i64)) (Kd.pair k36 k37)))))))) (fun x : S39 => (x.f0, x.f1, x.f2, x.f3, x.f4, x.f5, x.f6, x.f7, x.f8))
theorem k39_mk (w : World) (x : S39) {A3 : Option Addr} {c3 : Nat} (l3 : x.f3.length ≤ c3) (g3 : k112.C w A3 x.f3.length x.f3) {A4 : Option Addr} {c4 : Nat} (l4 : x.f4.length ≤ c4) (g4 : (Kd.slice 3 (Kd.int .i64)).C w A4 x.f4.length x.f4) {A5 : Option Addr} {c5 : Nat} (l5 : x.f5.length ≤ c5) (g5 : k48.C w A5 x.f5.length x.f5) {A6 : Option Addr} {c6 : Nat} (l6 : x.f6.length ≤ c6) (g6 : (Kd.int .i64).C w A6 x.f6.length x.f6) {A8 : Option Addr} {c8 : Nat} (l8 : x.f7.f1.length ≤ c8) (g8 : (Kd.slice 3 (Kd.int .i64)).C w A8 x.f7.f1.length x.f7.f1) {A9 : Option Addr} {c9 : Nat} (l9 : x.f7.f2.length ≤ c9) (g9 : (Kd.slice 3 (Kd.int .i64)).C w A9 x.f7.f2.length x.f7.f2) {A12 : Option Addr} {c12 : Nat} (l12 : x.f8.f0.length ≤ c12) (g12 : (Kd.slice 3 (Kd.int .i64)).C w A12 x.f8.f0.length x.f8.f0) {A13 : Option Addr} {c13 : Nat} (l13 : x.f8.f1.length ≤ c13) (g13 : (Kd.slice 3 (Kd.int .i64)).C w A13 x.f8.f1.length x.f8.f1) : k39.K w x [.int .i64 x.f0, .int .i64 x.f1, .int .i64 x.f2, .slice A3 x.f3.length c3, .slice A4 x.f4.length c4, .slice A5 x.f5.length c5, .slice A6 x.f6.length c6, .int .i64 x.f7.f0, .slice A8 x.f7.f1.length c8, .slice A9 x.f7.f2.length c9, .int .i64 x.f7.f3, .int .i64 x.f7.f4, .slice A12 x.f8.f0.length c12, .slice A13 x.f8.f1.length c13] := ⟨[.int .i64 x.f0], [.int .i64 x.f1, .int .i64 x.f2, .slice A3 x.f3.length c3, .slice A4 x.f4.length c4, .slice A5 x.f5.length c5, .slice A6 x.f6.length c6, .int .i64 x.f7.f0, .slice A8 x.f7.f1.length c8, .slice A9 x.f7.f2.length c9, .int .i64 x.f7.f3, .int .i64 x.f7.f4, .slice A12 x.f8.f0.length c12, .slice A13 x.f8.f1.length c13], rfl, rfl, ⟨[.int .i64 x.f1], [.int .i64 x.f2, .slice A3 x.f3.length c3, .slice A4 x.f4.length c4, .slice A5 x.f5.length c5, .slice A6 x.f6.length c6, .int .i64 x.f7.f0, .slice A8 x.f7.f1.length c8, .slice A9 x.f7.f2.length c9, .int .i64 x.f7.f3, .int .i64 x.f7.f4, .slice A12 x.f8.f0.length c12, .slice A13 x.f8.f1.length c13], rfl, rfl, ⟨[.int .i64 x.f2], [.slice A3 x.f3.length c3, .slice A4 x.f4.length c4, .slice A5 x.f5.length c5, .slice A6 x.f6.length c6, .int .i64 x.f7.f0, .slice A8 x.f7.f1.length c8, .slice A9 x.f7.f2.length c9, .int .i64 x.f7.f3, .int .i64 x.f7.f4, .slice A12 x.f8.f0.length c12, .slice A13 x.f8.f1.length c13], rfl, rfl, ⟨[.slice A3 x.f3.length c3], [.slice A4 x.f4.length c4, .slice A5 x.f5.length c5, .slice A6 x.f6.length c6, .int .i64 x.f7.f0, .slice A8 x.f7.f1.length c8, .slice A9 x.f7.f2.length c9, .int .i64 x.f7.f3, .int .i64 x.f7.f4, .slice A12 x.f8.f0.length c12, .slice A13 x.f8.f1.length c13], rfl, ⟨A3, c3, rfl, l3, g3⟩, ⟨[.slice A4 x.f4.length c4], [.slice A5 x.f5.length c5, .slice A6 x.f6.length c6, .int .i64 x.f7.f0, .slice A8 x.f7.f1.length c8, .slice A9 x.f7.f2.length c9, .int .i64 x.f7.f3, .int .i64 x.f7.f4, .slice A12 x.f8.f0.length c12, .slice A13 x.f8.f1.length c13], rfl, ⟨A4, c4, rfl, l4, g4⟩, ⟨[.slice A5 x.f5.length c5], [.slice A6 x.f6.length c6, .int .i64 x.f7.f0, .slice A8 x.f7.f1.length c8, .slice A9 x.f7.f2.length c9, .int .i64 x.f7.f3, .int .i64 x.f7.f4, .slice A12 x.f8.f0.length c12, .slice A13 x.f8.f1.length c13], rfl, ⟨A5, c5, rfl, l5, g5⟩, ⟨[.slice A6 x.f6.length c6], [.int .i64 x.f7.f0, .slice A8 x.f7.f1.length c8, .slice A9 x.f7.f2.length c9, .int .i64 x.f7.f3, .int .i64 x.f7.f4, .slice A12 x.f8.f0.length c12, .slice A13 x.f8.f1.length c13], rfl, ⟨A6, c6, rfl, l6, g6⟩, ⟨[.int .i64 x.f7.f0, .slice A8 x.f7.f1.length c8, .slice A9 x.f7.f2.length c9, .int .i64 x.f7.f3, .int .i64 x.f7.f4], [.slice A12 x.f8.f0.length c12, .slice A13 x.f8.f1.length c13], rfl, ⟨[.int .i64 x.f7.f0], [.slice A8 x.f7.f1.length c8, .slice A9 x.f7.f2.length c9, .int .i64 x.f7.f3, .int .i64 x.f7.f4], rfl, rfl, ⟨[.slice A8 x.f7.f1.length c8], [.slice A9 x.f7.f2.length c9, .int .i64 x.f7.f3, .int .i64 x.f7.f4], rfl, ⟨A8, c8, rfl, l8, g8⟩, ⟨[.slice A9 x.f7.f2.length c9], [.int .i64 x.f7.f3, .int .i64 x.f7.f4], rfl, ⟨A9, c9, rfl, l9, g9⟩, ⟨[.int .i64 x.f7.f3], [.int .i64 x.f7.f4], rfl, rfl, rfl⟩⟩⟩⟩, ⟨[.slice A12 x.f8.f0.length c12], [.slice A13 x.f8.f1.length c13], rfl, ⟨A12, c12, rfl, l12, g12⟩, ⟨A13, c13, rfl, l13, g13⟩⟩⟩⟩⟩⟩⟩⟩⟩⟩
theorem h129 : Kd.Heap k129 := Kd.heap_iso _ (Kd.heap_pair (Kd.heap_int _) (Kd.heap_int _))
def o27 : S27 := ⟨0, [], [], 0, 0⟩
theorem h27 : Kd.Heap k27 := Kd.heap_iso _ (Kd.heap_pair (Kd.heap_int _) (Kd.heap_pair (Kd.heap_slice _ (Kd.heap_slice _ (Kd.heap_int _))) (Kd.heap_pair (Kd.heap_slice _ (Kd.heap_slice _ (Kd.heap_int _))) (Kd.heap_pair (Kd.heap_int _) (Kd.heap_int _)))))
def o44 : S44 := ⟨[], o27, o27, o27, o27, [], o27, o27⟩
theorem h44 : Kd.Heap k44 := Kd.heap_iso _ (Kd.heap_pair (Kd.heap_slice _ (Kd.heap_int _)) (Kd.heap_pair h27 (Kd.heap_pair h27 (Kd.heap_pair h27 (Kd.heap_pair h27 (Kd.heap_pair (Kd.heap_slice _ (Kd.heap_int _)) (Kd.heap_pair h27 h27)))))))
theorem h29 : Kd.Heap k29 := Kd.heap_iso _ (Kd.heap_pair (Kd.heap_slice _ (Kd.heap_slice _ (Kd.heap_int _))) (Kd.heap_slice _ (Kd.heap_slice _ (Kd.heap_int _))))
theorem h31 : Kd.Heap k31 := Kd.heap_iso _ (Kd.heap_pair (Kd.heap_int _) (Kd.heap_pair (Kd.heap_int _) (Kd.heap_pair (Kd.heap_int _) (Kd.heap_pair (Kd.heap_slice _ h129) (Kd.heap_pair (Kd.heap_slice _ (Kd.heap_slice _ (Kd.heap_int _))) (Kd.heap_pair (Kd.heap_slice _ h44) (Kd.heap_pair (Kd.heap_slice _ (Kd.heap_int _)) (Kd.heap_pair h27 h29))))))))
theorem h112 : Kd.Heap k112 := Kd.heap_iso _ (Kd.heap_pair (Kd.heap_int _) (Kd.heap_int _))
def o36 : S36 := ⟨0, [], [], 0, 0⟩
theorem h36 : Kd.Heap k36 := Kd.heap_iso _ (Kd.heap_pair (Kd.heap_int _) (Kd.heap_pair (Kd.heap_slice _ (Kd.heap_slice _ (Kd.heap_int _))) (Kd.heap_pair (Kd.heap_slice _ (Kd.heap_slice _ (Kd.heap_int _))) (Kd.heap_pair (Kd.heap_int _) (Kd.heap_int _)))))
def o48 : S48 := ⟨[], o36, o36, o36, o36, [], o36, o36⟩
theorem h48 : Kd.Heap k48 := Kd.heap_iso _ (Kd.heap_pair (Kd.heap_slice _ (Kd.heap_int _)) (Kd.heap_pair h36 (Kd.heap_pair h36 (Kd.heap_pair h36 (Kd.heap_pair h36 (Kd.heap_pair (Kd.heap_slice _ (Kd.heap_int _)) (Kd.heap_pair h36 h36)))))))
theorem h37 : Kd.Heap k37 := Kd.heap_iso _ (Kd.heap_pair (Kd.heap_slice _ (Kd.heap_slice _ (Kd.heap_int _))) (Kd.heap_slice _ (Kd.heap_slice _ (Kd.heap_int _))))
theorem h39 : Kd.Heap k39 := Kd.heap_iso _ (Kd.heap_pair (Kd.heap_int _) (Kd.heap_pair (Kd.heap_int _) (Kd.heap_pair (Kd.heap_int _) (Kd.heap_pair (Kd.heap_slice _ h112) (Kd.heap_pair (Kd.heap_slice _ (Kd.heap_slice _ (Kd.heap_int _))) (Kd.heap_pair (Kd.heap_slice _ h48) (Kd.heap_pair (Kd.heap_slice _ (Kd.heap_int _)) (Kd.heap_pair h36 h37))))))))
theorem at31_0 {w : World} {x : S31} {cs : List Value} (h : AtK k31 w x cs 0) : AtK (Kd.int .i64) w x.f0 cs 0 := h.iso.fst
theorem at31_1 {w : World} {x : S31} {cs : List Value} (h : AtK k31 w x cs 0) : AtK (Kd.int .i64) w x.f1 cs 1 := (h.iso.snd rfl).fst
theorem at31_2 {w : World} {x : S31} {cs : List Value} (h : AtK k31 w x cs 0) : AtK (Kd.int .i64) w x.f2 cs 2 := ((h.iso.snd rfl).snd rfl).fst
theorem at31_3 {w : World} {x : S31} {cs : List Value} (h : AtK k31 w x cs 0) : AtK (Kd.slice 129 k129) w x.f3 cs 3 := (((h.iso.snd rfl).snd rfl).snd rfl).fst
theorem at31_4 {w : World} {x : S31} {cs : List Value} (h : AtK k31 w x cs 0) : AtK (Kd.slice 25 (Kd.slice 3 (Kd.int .i64))) w x.f4 cs 4 := ((((h.iso.snd rfl).snd rfl).snd rfl).snd rfl).fst
theorem at31_5 {w : World} {x : S31} {cs : List Value} (h : AtK k31 w x cs 0) : AtK (Kd.slice 44 k44) w x.f5 cs 5 := (((((h.iso.snd rfl).snd rfl).snd rfl).snd rfl).snd rfl).fst
theorem at31_6 {w : World} {x : S31} {cs : List Value} (h : AtK k31 w x cs 0) : AtK (Kd.slice 3 (Kd.int .i64)) w x.f6 cs 6 := ((((((h.iso.snd rfl).snd rfl).snd rfl).snd rfl).snd rfl).snd rfl).fst
theorem at31_7 {w : World} {x : S31} {cs : List Value} (h : AtK k31 w x cs 0) : AtK (Kd.int .i64) w x.f7.f0 cs 7 := (((((((h.iso.snd rfl).snd rfl).snd rfl).snd rfl).snd rfl).snd rfl).snd rfl).fst.iso.fst
theorem at31_8 {w : World} {x : S31} {cs : List Value} (h : AtK k31 w x cs 0) : AtK (Kd.slice 25 (Kd.slice 3 (Kd.int .i64))) w x.f7.f1 cs 8 := ((((((((h.iso.snd rfl).snd rfl).snd rfl).snd rfl).snd rfl).snd rfl).snd rfl).fst.iso.snd rfl).fst
theorem at31_9 {w : World} {x : S31} {cs : List Value} (h : AtK k31 w x cs 0) : AtK (Kd.slice 25 (Kd.slice 3 (Kd.int .i64))) w x.f7.f2 cs 9 := (((((((((h.iso.snd rfl).snd rfl).snd rfl).snd rfl).snd rfl).snd rfl).snd rfl).fst.iso.snd rfl).snd rfl).fst
theorem at31_10 {w : World} {x : S31} {cs : List Value} (h : AtK k31 w x cs 0) : AtK (Kd.int .i64) w x.f7.f3 cs 10 := ((((((((((h.iso.snd rfl).snd rfl).snd rfl).snd rfl).snd rfl).snd rfl).snd rfl).fst.iso.snd rfl).snd rfl).snd rfl).fst
theorem at31_11 {w : World} {x : S31} {cs : List Value} (h : AtK k31 w x cs 0) : AtK (Kd.int .i64) w x.f7.f4 cs 11 := (((((((((((h.iso.snd rfl).snd rfl).snd rfl).snd rfl).snd rfl).snd rfl).snd rfl).fst.iso.snd rfl).snd rfl).snd rfl).snd rfl)
theorem at31_12 {w : World} {x : S31} {cs : List Value} (h : AtK k31 w x cs 0) : AtK (Kd.slice 25 (Kd.slice 3 (Kd.int .i64))) w x.f8.f0 cs 12 := ((((((((h.iso.snd rfl).snd rfl).snd rfl).snd rfl).snd rfl).snd rfl).snd rfl).snd rfl).iso.fst
theorem at31_13 {w : World} {x : S31} {cs : List Value} (h : AtK k31 w x cs 0) : AtK (Kd.slice 25 (Kd.slice 3 (Kd.int .i64))) w x.f8.f1 cs 13 := (((((((((h.iso.snd rfl).snd rfl).snd rfl).snd rfl).snd rfl).snd rfl).snd rfl).snd rfl).iso.snd rfl)
theorem at39_0 {w : World} {x : S39} {cs : List Value} (h : AtK k39 w x cs 0) : AtK (Kd.int .i64) w x.f0 cs 0 := h.iso.fst
theorem at39_1 {w : World} {x : S39} {cs : List Value} (h : AtK k39 w x cs 0) : AtK (Kd.int .i64) w x.f1 cs 1 := (h.iso.snd rfl).fst
theorem at39_2 {w : World} {x : S39} {cs : List Value} (h : AtK k39 w x cs 0) : AtK (Kd.int .i64) w x.f2 cs 2 := ((h.iso.snd rfl).snd rfl).fst
theorem at39_3 {w : World} {x : S39} {cs : List Value} (h : AtK k39 w x cs 0) : AtK (Kd.slice 112 k112) w x.f3 cs 3 := (((h.iso.snd rfl).snd rfl).snd rfl).fst
theorem at39_4 {w : World} {x : S39} {cs : List Value} (h : AtK k39 w x cs 0) : AtK (Kd.slice 25 (Kd.slice 3 (Kd.int .i64))) w x.f4 cs 4 := ((((h.iso.snd rfl).snd rfl).snd rfl).snd rfl).fst
theorem at39_5 {w : World} {x : S39} {cs : List Value} (h : AtK k39 w x cs 0) : AtK (Kd.slice 48 k48) w x.f5 cs 5 := (((((h.iso.snd rfl).snd rfl).snd rfl).snd rfl).snd rfl).fst
theorem at39_6 {w : World} {x : S39} {cs : List Value} (h : AtK k39 w x cs 0) : AtK (Kd.slice 3 (Kd.int .i64)) w x.f6 cs 6 := ((((((h.iso.snd rfl).snd rfl).snd rfl).snd rfl).snd rfl).snd rfl).fst
theorem at39_7 {w : World} {x : S39} {cs : List Value} (h : AtK k39 w x cs 0) : AtK (Kd.int .i64) w x.f7.f0 cs 7 := (((((((h.iso.snd rfl).snd rfl).snd rfl).snd rfl).snd rfl).snd rfl).snd rfl).fst.iso.fst
theorem at39_8 {w : World} {x : S39} {cs : List Value} (h : AtK k39 w x cs 0) : AtK (Kd.slice 25 (Kd.slice 3 (Kd.int .i64))) w x.f7.f1 cs 8 := ((((((((h.iso.snd rfl).snd rfl).snd rfl).snd rfl).snd rfl).snd rfl).snd rfl).fst.iso.snd rfl).fst
theorem at39_9 {w : World} {x : S39} {cs : List Value} (h : AtK k39 w x cs 0) : AtK (Kd.slice 25 (Kd.slice 3 (Kd.int .i64))) w x.f7.f2 cs 9 := (((((((((h.iso.snd rfl).snd rfl).snd rfl).snd rfl).snd rfl).snd rfl).snd rfl).fst.iso.snd rfl).snd rfl).fst
theorem at39_10 {w : World} {x : S39} {cs : List Value} (h : AtK k39 w x cs 0) : AtK (Kd.int .i64) w x.f7.f3 cs 10 := ((((((((((h.iso.snd rfl).snd rfl).snd rfl).snd rfl).snd rfl).snd rfl).snd rfl).fst.iso.snd rfl).snd rfl).snd rfl).fst
theorem at39_11 {w : World} {x : S39} {cs : List Value} (h : AtK k39 w x cs 0) : AtK (Kd.int .i64) w x.f7.f4 cs 11 := (((((((((((h.iso.snd rfl).snd rfl).snd rfl).snd rfl).snd rfl).snd rfl).snd rfl).fst.iso.snd rfl).snd rfl).snd rfl).snd rfl)
theorem at39_12 {w : World} {x : S39} {cs : List Value} (h : AtK k39 w x cs 0) : AtK (Kd.slice 25 (Kd.slice 3 (Kd.int .i64))) w x.f8.f0 cs 12 := ((((((((h.iso.snd rfl).snd rfl).snd rfl).snd rfl).snd rfl).snd rfl).snd rfl).snd rfl).iso.fst
theorem at39_13 {w : World} {x : S39} {cs : List Value} (h : AtK k39 w x cs 0) : AtK (Kd.slice 25 (Kd.slice 3 (Kd.int .i64))) w x.f8.f1 cs 13 := (((((((((h.iso.snd rfl).snd rfl).snd rfl).snd rfl).snd rfl).snd rfl).snd rfl).snd rfl).iso.snd rfl)
theorem at44_0 {w : World} {x : S44} {cs : List Value} (h : AtK k44 w x cs 0) : AtK (Kd.slice 3 (Kd.int .i64)) w x.f0 cs 0 := h.iso.fst
theorem at44_1 {w : World} {x : S44} {cs : List Value} (h : AtK k44 w x cs 0) : AtK (Kd.int .i64) w x.f1.f0 cs 1 := (h.iso.snd rfl).fst.iso.fst
theorem at44_2 {w : World} {x : S44} {cs : List Value} (h : AtK k44 w x cs 0) : AtK (Kd.slice 25 (Kd.slice 3 (Kd.int .i64))) w x.f1.f1 cs 2 := ((h.iso.snd rfl).fst.iso.snd rfl).fst
theorem at44_3 {w : World} {x : S44} {cs : List Value} (h : AtK k44 w x cs 0) : AtK (Kd.slice 25 (Kd.slice 3 (Kd.int .i64))) w x.f1.f2 cs 3 := (((h.iso.snd rfl).fst.iso.snd rfl).snd rfl).fst
theorem at44_4 {w : World} {x : S44} {cs : List Value} (h : AtK k44 w x cs 0) : AtK (Kd.int .i64) w x.f1.f3 cs 4 := ((((h.iso.snd rfl).fst.iso.snd rfl).snd rfl).snd rfl).fst
theorem at44_5 {w : World} {x : S44} {cs : List Value} (h : AtK k44 w x cs 0) : AtK (Kd.int .i64) w x.f1.f4 cs 5 := (((((h.iso.snd rfl).fst.iso.snd rfl).snd rfl).snd rfl).snd rfl)
theorem at44_6 {w : World} {x : S44} {cs : List Value} (h : AtK k44 w x cs 0) : AtK (Kd.int .i64) w x.f2.f0 cs 6 := ((h.iso.snd rfl).snd rfl).fst.iso.fst
theorem at44_7 {w : World} {x : S44} {cs : List Value} (h : AtK k44 w x cs 0) : AtK (Kd.slice 25 (Kd.slice 3 (Kd.int .i64))) w x.f2.f1 cs 7 := (((h.iso.snd rfl).snd rfl).fst.iso.snd rfl).fst
theorem at44_8 {w : World} {x : S44} {cs : List Value} (h : AtK k44 w x cs 0) : AtK (Kd.slice 25 (Kd.slice 3 (Kd.int .i64))) w x.f2.f2 cs 8 := ((((h.iso.snd rfl).snd rfl).fst.iso.snd rfl).snd rfl).fst
theorem at44_9 {w : World} {x : S44} {cs : List Value} (h : AtK k44 w x cs 0) : AtK (Kd.int .i64) w x.f2.f3 cs 9 := (((((h.iso.snd rfl).snd rfl).fst.iso.snd rfl).snd rfl).snd rfl).fst
theorem at44_10 {w : World} {x : S44} {cs : List Value} (h : AtK k44 w x cs 0) : AtK (Kd.int .i64) w x.f2.f4 cs 10 := ((((((h.iso.snd rfl).snd rfl).fst.iso.snd rfl).snd rfl).snd rfl).snd rfl)
theorem at44_11 {w : World} {x : S44} {cs : List Value} (h : AtK k44 w x cs 0) : AtK (Kd.int .i64) w x.f3.f0 cs 11 := (((h.iso.snd rfl).snd rfl).snd rfl).fst.iso.fst
theorem at44_12 {w : World} {x : S44} {cs : List Value} (h : AtK k44 w x cs 0) : AtK (Kd.slice 25 (Kd.slice 3 (Kd.int .i64))) w x.f3.f1 cs 12 := ((((h.iso.snd rfl).snd rfl).snd rfl).fst.iso.snd rfl).fst
theorem at44_13 {w : World} {x : S44} {cs : List Value} (h : AtK k44 w x cs 0) : AtK (Kd.slice 25 (Kd.slice 3 (Kd.int .i64))) w x.f3.f2 cs 13 := (((((h.iso.snd rfl).snd rfl).snd rfl).fst.iso.snd rfl).snd rfl).fst
theorem at44_14 {w : World} {x : S44} {cs : List Value} (h : AtK k44 w x cs 0) : AtK (Kd.int .i64) w x.f3.f3 cs 14 := ((((((h.iso.snd rfl).snd rfl).snd rfl).fst.iso.snd rfl).snd rfl).snd rfl).fst
theorem at44_15 {w : World} {x : S44} {cs : List Value} (h : AtK k44 w x cs 0) : AtK (Kd.int .i64) w x.f3.f4 cs 15 := (((((((h.iso.snd rfl).snd rfl).snd rfl).fst.iso.snd rfl).snd rfl).snd rfl).snd rfl)
theorem at44_16 {w : World} {x : S44} {cs : List Value} (h : AtK k44 w x cs 0) : AtK (Kd.int .i64) w x.f4.f0 cs 16 := ((((h.iso.snd rfl).snd rfl).snd rfl).snd rfl).fst.iso.fst
theorem at44_17 {w : World} {x : S44} {cs : List Value} (h : AtK k44 w x cs 0) : AtK (Kd.slice 25 (Kd.slice 3 (Kd.int .i64))) w x.f4.f1 cs 17 := (((((h.iso.snd rfl).snd rfl).snd rfl).snd rfl).fst.iso.snd rfl).fst
theorem at44_18 {w : World} {x : S44} {cs : List Value} (h : AtK k44 w x cs 0) : AtK (Kd.slice 25 (Kd.slice 3 (Kd.int .i64))) w x.f4.f2 cs 18 := ((((((h.iso.snd rfl).snd rfl).snd rfl).snd rfl).fst.iso.snd rfl).snd rfl).fst
theorem at44_19 {w : World} {x : S44} {cs : List Value} (h : AtK k44 w x cs 0) : AtK (Kd.int .i64) w x.f4.f3 cs 19 := (((((((h.iso.snd rfl).snd rfl).snd rfl).snd rfl).fst.iso.snd rfl).snd rfl).snd rfl).fst
theorem at44_20 {w : World} {x : S44} {cs : List Value} (h : AtK k44 w x cs 0) : AtK (Kd.int .i64) w x.f4.f4 cs 20 := ((((((((h.iso.snd rfl).snd rfl).snd rfl).snd rfl).fst.iso.snd rfl).snd rfl).snd rfl).snd rfl)
theorem at44_21 {w : World} {x : S44} {cs : List Value} (h : AtK k44 w x cs 0) : AtK (Kd.slice 3 (Kd.int .i64)) w x.f5 cs 21 := (((((h.iso.snd rfl).snd rfl).snd rfl).snd rfl).snd rfl).fst
theorem at44_22 {w : World} {x : S44} {cs : List Value} (h : AtK k44 w x cs 0) : AtK (Kd.int .i64) w x.f6.f0 cs 22 := ((((((h.iso.snd rfl).snd rfl).snd rfl).snd rfl).snd rfl).snd rfl).fst.iso.fst
theorem at44_23 {w : World} {x : S44} {cs : List Value} (h : AtK k44 w x cs 0) : AtK (Kd.slice 25 (Kd.slice 3 (Kd.int .i64))) w x.f6.f1 cs 23 := (((((((h.iso.snd rfl).snd rfl).snd rfl).snd rfl).snd rfl).snd rfl).fst.iso.snd rfl).fst
theorem at44_24 {w : World} {x : S44} {cs : List Value} (h : AtK k44 w x cs 0) : AtK (Kd.slice 25 (Kd.slice 3 (Kd.int .i64))) w x.f6.f2 cs 24 := ((((((((h.iso.snd rfl).snd rfl).snd rfl).snd rfl).snd rfl).snd rfl).fst.iso.snd rfl).snd rfl).fst
theorem at44_25 {w : World} {x : S44} {cs : List Value} (h : AtK k44 w x cs 0) : AtK (Kd.int .i64) w x.f6.f3 cs 25 := (((((((((h.iso.snd rfl).snd rfl).snd rfl).snd rfl).snd rfl).snd rfl).fst.iso.snd rfl).snd rfl).snd rfl).fst
theorem at44_26 {w : World} {x : S44} {cs : List Value} (h : AtK k44 w x cs 0) : AtK (Kd.int .i64) w x.f6.f4 cs 26 := ((((((((((h.iso.snd rfl).snd rfl).snd rfl).snd rfl).snd rfl).snd rfl).fst.iso.snd rfl).snd rfl).snd rfl).snd rfl)
theorem at44_27 {w : World} {x : S44} {cs : List Value} (h : AtK k44 w x cs 0) : AtK (Kd.int .i64) w x.f7.f0 cs 27 := (((((((h.iso.snd rfl).snd rfl).snd rfl).snd rfl).snd rfl).snd rfl).snd rfl).iso.fst
theorem at44_28 {w : World} {x : S44} {cs : List Value} (h : AtK k44 w x cs 0) : AtK (Kd.slice 25 (Kd.slice 3 (Kd.int .i64))) w x.f7.f1 cs 28 := ((((((((h.iso.snd rfl).snd rfl).snd rfl).snd rfl).snd rfl).snd rfl).snd rfl).iso.snd rfl).fst
theorem at44_29 {w : World} {x : S44} {cs : List Value} (h : AtK k44 w x cs 0) : AtK (Kd.slice 25 (Kd.slice 3 (Kd.int .i64))) w x.f7.f2 cs 29 := (((((((((h.iso.snd rfl).snd rfl).snd rfl).snd rfl).snd rfl).snd rfl).snd rfl).iso.snd rfl).snd rfl).fst
theorem at44_30 {w : World} {x : S44} {cs : List Value} (h : AtK k44 w x cs 0) : AtK (Kd.int .i64) w x.f7.f3 cs 30 := ((((((((((h.iso.snd rfl).snd rfl).snd rfl).snd rfl).snd rfl).snd rfl).snd rfl).iso.snd rfl).snd rfl).snd rfl).fst
theorem at44_31 {w : World} {x : S44} {cs : List Value} (h : AtK k44 w x cs 0) : AtK (Kd.int .i64) w x.f7.f4 cs 31 := (((((((((((h.iso.snd rfl).snd rfl).snd rfl).snd rfl).snd rfl).snd rfl).snd rfl).iso.snd rfl).snd rfl).snd rfl).snd rfl)
theorem at48_0 {w : World} {x : S48} {cs : List Value} (h : AtK k48 w x cs 0) : AtK (Kd.slice 3 (Kd.int .i64)) w x.f0 cs 0 := h.iso.fst
theorem at48_1 {w : World} {x : S48} {cs : List Value} (h : AtK k48 w x cs 0) : AtK (Kd.int .i64) w x.f1.f0 cs 1 := (h.iso.snd rfl).fst.iso.fst
theorem at48_2 {w : World} {x : S48} {cs : List Value} (h : AtK k48 w x cs 0) : AtK (Kd.slice 25 (Kd.slice 3 (Kd.int .i64))) w x.f1.f1 cs 2 := ((h.iso.snd rfl).fst.iso.snd rfl).fst
theorem at48_3 {w : World} {x : S48} {cs : List Value} (h : AtK k48 w x cs 0) : AtK (Kd.slice 25 (Kd.slice 3 (Kd.int .i64))) w x.f1.f2 cs 3 := (((h.iso.snd rfl).fst.iso.snd rfl).snd rfl).fst
theorem at48_4 {w : World} {x : S48} {cs : List Value} (h : AtK k48 w x cs 0) : AtK (Kd.int .i64) w x.f1.f3 cs 4 := ((((h.iso.snd rfl).fst.iso.snd rfl).snd rfl).snd rfl).fst
theorem at48_5 {w : World} {x : S48} {cs : List Value} (h : AtK k48 w x cs 0) : AtK (Kd.int .i64) w x.f1.f4 cs 5 := (((((h.iso.snd rfl).fst.iso.snd rfl).snd rfl).snd rfl).snd rfl)
theorem at48_6 {w : World} {x : S48} {cs : List Value} (h : AtK k48 w x cs 0) : AtK (Kd.int .i64) w x.f2.f0 cs 6 := ((h.iso.snd rfl).snd rfl).fst.iso.fst
theorem at48_7 {w : World} {x : S48} {cs : List Value} (h : AtK k48 w x cs 0) : AtK (Kd.slice 25 (Kd.slice 3 (Kd.int .i64))) w x.f2.f1 cs 7 := (((h.iso.snd rfl).snd rfl).fst.iso.snd rfl).fst
theorem at48_8 {w : World} {x : S48} {cs : List Value} (h : AtK k48 w x cs 0) : AtK (Kd.slice 25 (Kd.slice 3 (Kd.int .i64))) w x.f2.f2 cs 8 := ((((h.iso.snd rfl).snd rfl).fst.iso.snd rfl).snd rfl).fst
theorem at48_9 {w : World} {x : S48} {cs : List Value} (h : AtK k48 w x cs 0) : AtK (Kd.int .i64) w x.f2.f3 cs 9 := (((((h.iso.snd rfl).snd rfl).fst.iso.snd rfl).snd rfl).snd rfl).fst
theorem at48_10 {w : World} {x : S48} {cs : List Value} (h : AtK k48 w x cs 0) : AtK (Kd.int .i64) w x.f2.f4 cs 10 := ((((((h.iso.snd rfl).snd rfl).fst.iso.snd rfl).snd rfl).snd rfl).snd rfl)
theorem at48_11 {w : World} {x : S48} {cs : List Value} (h : AtK k48 w x cs 0) : AtK (Kd.int .i64) w x.f3.f0 cs 11 := (((h.iso.snd rfl).snd rfl).snd rfl).fst.iso.fst
theorem at48_12 {w : World} {x : S48} {cs : List Value} (h : AtK k48 w x cs 0) : AtK (Kd.slice 25 (Kd.slice 3 (Kd.int .i64))) w x.f3.f1 cs 12 := ((((h.iso.snd rfl).snd rfl).snd rfl).fst.iso.snd rfl).fst
theorem at48_13 {w : World} {x : S48} {cs : List Value} (h : AtK k48 w x cs 0) : AtK (Kd.slice 25 (Kd.slice 3 (Kd.int .i64))) w x.f3.f2 cs 13 := (((((h.iso.snd rfl).snd rfl).snd rfl).fst.iso.snd rfl).snd rfl).fst
theorem at48_14 {w : World} {x : S48} {cs : List Value} (h : AtK k48 w x cs 0) : AtK (Kd.int .i64) w x.f3.f3 cs 14 := ((((((h.iso.snd rfl).snd rfl).snd rfl).fst.iso.snd rfl).snd rfl).snd rfl).fst
theorem at48_15 {w : World} {x : S48} {cs : List Value} (h : AtK k48 w x cs 0) : AtK (Kd.int .i64) w x.f3.f4 cs 15 := (((((((h.iso.snd rfl).snd rfl).snd rfl).fst.iso.snd rfl).snd rfl).snd rfl).snd rfl)
theorem at48_16 {w : World} {x : S48} {cs : List Value} (h : AtK k48 w x cs 0) : AtK (Kd.int .i64) w x.f4.f0 cs 16 := ((((h.iso.snd rfl).snd rfl).snd rfl).snd rfl).fst.iso.fst
theorem at48_17 {w : World} {x : S48} {cs : List Value} (h : AtK k48 w x cs 0) : AtK (Kd.slice 25 (Kd.slice 3 (Kd.int .i64))) w x.f4.f1 cs 17 := (((((h.iso.snd rfl).snd rfl).snd rfl).snd rfl).fst.iso.snd rfl).fst
theorem at48_18 {w : World} {x : S48} {cs : List Value} (h : AtK k48 w x cs 0) : AtK (Kd.slice 25 (Kd.slice 3 (Kd.int .i64))) w x.f4.f2 cs 18 := ((((((h.iso.snd rfl).snd rfl).snd rfl).snd rfl).fst.iso.snd rfl).snd rfl).fst
theorem at48_19 {w : World} {x : S48} {cs : List Value} (h : AtK k48 w x cs 0) : AtK (Kd.int .i64) w x.f4.f3 cs 19 := (((((((h.iso.snd rfl).snd rfl).snd rfl).snd rfl).fst.iso.snd rfl).snd rfl).snd rfl).fst
theorem at48_20 {w : World} {x : S48} {cs : List Value} (h : AtK k48 w x cs 0) : AtK (Kd.int .i64) w x.f4.f4 cs 20 := ((((((((h.iso.snd rfl).snd rfl).snd rfl).snd rfl).fst.iso.snd rfl).snd rfl).snd rfl).snd rfl)
theorem at48_21 {w : World} {x : S48} {cs : List Value} (h : AtK k48 w x cs 0) : AtK (Kd.slice 3 (Kd.int .i64)) w x.f5 cs 21 := (((((h.iso.snd rfl).snd rfl).snd rfl).snd rfl).snd rfl).fst
theorem at48_22 {w : World} {x : S48} {cs : List Value} (h : AtK k48 w x cs 0) : AtK (Kd.int .i64) w x.f6.f0 cs 22 := ((((((h.iso.snd rfl).snd rfl).snd rfl).snd rfl).snd rfl).snd rfl).fst.iso.fst
theorem at48_23 {w : World} {x : S48} {cs : List Value} (h : AtK k48 w x cs 0) : AtK (Kd.slice 25 (Kd.slice 3 (Kd.int .i64))) w x.f6.f1 cs 23 := (((((((h.iso.snd rfl).snd rfl).snd rfl).snd rfl).snd rfl).snd rfl).fst.iso.snd rfl).fst
theorem at48_24 {w : World} {x : S48} {cs : List Value} (h : AtK k48 w x cs 0) : AtK (Kd.slice 25 (Kd.slice 3 (Kd.int .i64))) w x.f6.f2 cs 24 := ((((((((h.iso.snd rfl).snd rfl).snd rfl).snd rfl).snd rfl).snd rfl).fst.iso.snd rfl).snd rfl).fst
theorem at48_25 {w : World} {x : S48} {cs : List Value} (h : AtK k48 w x cs 0) : AtK (Kd.int .i64) w x.f6.f3 cs 25 := (((((((((h.iso.snd rfl).snd rfl).snd rfl).snd rfl).snd rfl).snd rfl).fst.iso.snd rfl).snd rfl).snd rfl).fst
theorem at48_26 {w : World} {x : S48} {cs : List Value} (h : AtK k48 w x cs 0) : AtK (Kd.int .i64) w x.f6.f4 cs 26 := ((((((((((h.iso.snd rfl).snd rfl).snd rfl).snd rfl).snd rfl).snd rfl).fst.iso.snd rfl).snd rfl).snd rfl).snd rfl)
theorem at48_27 {w : World} {x : S48} {cs : List Value} (h : AtK k48 w x cs 0) : AtK (Kd.int .i64) w x.f7.f0 cs 27 := (((((((h.iso.snd rfl).snd rfl).snd rfl).snd rfl).snd rfl).snd rfl).snd rfl).iso.fst
theorem at48_28 {w : World} {x : S48} {cs : List Value} (h : AtK k48 w x cs 0) : AtK (Kd.slice 25 (Kd.slice 3 (Kd.int .i64))) w x.f7.f1 cs 28 := ((((((((h.iso.snd rfl).snd rfl).snd rfl).snd rfl).snd rfl).snd rfl).snd rfl).iso.snd rfl).fst
theorem at48_29 {w : World} {x : S48} {cs : List Value} (h : AtK k48 w x cs 0) : AtK (Kd.slice 25 (Kd.slice 3 (Kd.int .i64))) w x.f7.f2 cs 29 := (((((((((h.iso.snd rfl).snd rfl).snd rfl).snd rfl).snd rfl).snd rfl).snd rfl).iso.snd rfl).snd rfl).fst
theorem at48_30 {w : World} {x : S48} {cs : List Value} (h : AtK k48 w x cs 0) : AtK (Kd.int .i64) w x.f7.f3 cs 30 := ((((((((((h.iso.snd rfl).snd rfl).snd rfl).snd rfl).snd rfl).snd rfl).snd rfl).iso.snd rfl).snd rfl).snd rfl).fst
theorem at48_31 {w : World} {x : S48} {cs : List Value} (h : AtK k48 w x cs 0) : AtK (Kd.int .i64) w x.f7.f4 cs 31 := (((((((((((h.iso.snd rfl).snd rfl).snd rfl).snd rfl).snd rfl).snd rfl).snd rfl).iso.snd rfl).snd rfl).snd rfl).snd rfl)
def spec_Vocab.g (k : Nat) (x0 : S39) : Option Int := (some (wrap64 (256 + (x0.f3.length : Int))))
set_option maxHeartbeats 4000000 in
set_option maxRecDepth 20000 in
theorem spec_Vocab.runs (k : Nat) (cs0 : List Value) (x0 : S39) (r : Int) (w : World) (hk0 : k39.K w x0 cs0) (H : spec_Vocab.g k x0 = some r) :
    Calls Try.prog 15 #[.agg cs0.toArray] w fun e w' => e = .returned (.int .i64 r) ∧ Below w.heap.size w w' := by
  have el0 : cs0.length = 14 := k39.K_len hk0
  unfold spec_Vocab.g at H
  have HS : St (fun _ => True) w w [] [(fun W => k39.K W x0 cs0)] [] := St.start (foot_cons (foot_K h39 hk0) foot_nil)
  refine calls_W Try.func15 rfl rfl (Nat.le_of_ble_eq_true rfl) (fun R_ hR_ => ?_)
  refine WC.seq (fun K1 hK1 => ?_)
  refine WC.region ?_
  refine WL.box HS rfl rfl (by decide) rfl rfl rfl (fun b2 w3 hb2 HS => ?_)
  refine as_ ?_
  refine WL.done ?_
  refine WQ.via (fun _ _ h_ => h_) hK1 ?_
  refine WC.seq (fun K4 hK4 => ?_)
  refine WC.region ?_
  refine v_ (Run.fieldAddr rfl rfl Try.underlying39 rfl (by kernel_rfl) rfl) ?_
  obtain ⟨A5, c6, hc7, le8⟩ := (at39_3 (AtK.whole (HS.getO 0 rfl))).slice
  replace HS := HS.deriveO (p := (fun W => k112.C W A5 x0.f3.length x0.f3)) (fun W_ hO_ hN_ => (at39_3 (AtK.whole (AllF.get 0 rfl hO_))).C hc7)
  refine v_ (Run.load rfl rfl Try.underlying34 rfl (box_cell (HS.mu 0 rfl) hc7)) ?_
  refine v_ (Run.len (ts := #[]) rfl Try.underlying34 rfl) ?_
  refine v_ (Run.bin rfl rfl rfl bin_add64) ?_
  refine as_ ?_
  refine WL.done ?_
  refine WQ.via (fun _ _ h_ => h_) hK4 ?_
  refine WC.ret ?_
  obtain rfl := Option.some.inj H
  refine WQ.fin (e' := .ret) (fn := Try.f15) (fun _ _ h_ => h_) (WQ.ret1 rfl rfl ?_)
  exact hR_ _ _ ⟨rfl, HS.b⟩
def impl_Vocab.g (k : Nat) (x0 : S39) : Option Int := (some (wrap64 (256 + (x0.f3.length : Int))))
set_option maxHeartbeats 4000000 in
set_option maxRecDepth 20000 in
theorem impl_Vocab.runs (k : Nat) (cs0 : List Value) (x0 : S39) (r : Int) (w : World) (hk0 : k39.K w x0 cs0) (H : impl_Vocab.g k x0 = some r) :
    Calls Try.prog 17 #[.agg cs0.toArray] w fun e w' => e = .returned (.int .i64 r) ∧ Below w.heap.size w w' := by
  have el0 : cs0.length = 14 := k39.K_len hk0
  unfold impl_Vocab.g at H
  have HS : St (fun _ => True) w w [] [(fun W => k39.K W x0 cs0)] [] := St.start (foot_cons (foot_K h39 hk0) foot_nil)
  refine calls_W Try.func17 rfl rfl (Nat.le_of_ble_eq_true rfl) (fun R_ hR_ => ?_)
  refine WC.seq (fun K1 hK1 => ?_)
  refine WC.region ?_
  refine WL.box HS rfl rfl (by decide) rfl rfl rfl (fun b2 w3 hb2 HS => ?_)
  refine as_ ?_
  refine WL.done ?_
  refine WQ.via (fun _ _ h_ => h_) hK1 ?_
  refine WC.seq (fun K4 hK4 => ?_)
  refine WC.region ?_
  refine v_ (Run.fieldAddr rfl rfl Try.underlying39 rfl (by kernel_rfl) rfl) ?_
  obtain ⟨A5, c6, hc7, le8⟩ := (at39_3 (AtK.whole (HS.getO 0 rfl))).slice
  replace HS := HS.deriveO (p := (fun W => k112.C W A5 x0.f3.length x0.f3)) (fun W_ hO_ hN_ => (at39_3 (AtK.whole (AllF.get 0 rfl hO_))).C hc7)
  refine v_ (Run.load rfl rfl Try.underlying34 rfl (box_cell (HS.mu 0 rfl) hc7)) ?_
  refine v_ (Run.len (ts := #[]) rfl Try.underlying34 rfl) ?_
  refine v_ (Run.bin rfl rfl rfl bin_add64) ?_
  refine as_ ?_
  refine WL.done ?_
  refine WQ.via (fun _ _ h_ => h_) hK4 ?_
  refine WC.ret ?_
  obtain rfl := Option.some.inj H
  refine WQ.fin (e' := .ret) (fn := Try.f17) (fun _ _ h_ => h_) (WQ.ret1 rfl rfl ?_)
  exact hR_ _ _ ⟨rfl, HS.b⟩
def laws_szLayer.g (k : Nat) (x0 : S44) (a1 : Int) : Option Int := ((laws_szIntS.f x0.f0 a1).bind fun t9 => (if t9 < 0 then (some (-1)) else ((laws_szMatrix.f k x0.f1.f0 x0.f1.f1 x0.f1.f2 x0.f1.f3 x0.f1.f4 t9).bind fun t25 => (if t25 < 0 then (some (-1)) else ((laws_szMatrix.f k x0.f2.f0 x0.f2.f1 x0.f2.f2 x0.f2.f3 x0.f2.f4 t25).bind fun t41 => (if t41 < 0 then (some (-1)) else ((laws_szMatrix.f k x0.f3.f0 x0.f3.f1 x0.f3.f2 x0.f3.f3 x0.f3.f4 t41).bind fun t57 => (if t57 < 0 then (some (-1)) else ((laws_szMatrix.f k x0.f4.f0 x0.f4.f1 x0.f4.f2 x0.f4.f3 x0.f4.f4 t57).bind fun t73 => (if t73 < 0 then (some (-1)) else ((laws_szIntS.f x0.f5 t73).bind fun t85 => (if t85 < 0 then (some (-1)) else ((laws_szMatrix.f k x0.f6.f0 x0.f6.f1 x0.f6.f2 x0.f6.f3 x0.f6.f4 t85).bind fun t101 => (if t101 < 0 then (some (-1)) else ((laws_szMatrix.f k x0.f7.f0 x0.f7.f1 x0.f7.f2 x0.f7.f3 x0.f7.f4 t101).bind fun t117 => (if t117 < 0 then (some (-1)) else (some t117)))))))))))))))))
set_option maxHeartbeats 4000000 in
set_option maxRecDepth 20000 in
theorem laws_szLayer.runs (k : Nat) (cs0 : List Value) (x0 : S44) (a1 : Int) (r : Int) (w : World) (hk0 : k44.K w x0 cs0) (H : laws_szLayer.g k x0 a1 = some r) :
    Calls Try.prog 19 #[.agg cs0.toArray, .int .i64 a1] w fun e w' => e = .returned (.int .i64 r) ∧ Below w.heap.size w w' := by
  have el0 : cs0.length = 32 := k44.K_len hk0
  unfold laws_szLayer.g at H
  have HS : St (fun _ => True) w w [] [(fun W => k44.K W x0 cs0)] [] := St.start (foot_cons (foot_K h44 hk0) foot_nil)
  refine calls_W Try.func19 rfl rfl (Nat.le_of_ble_eq_true rfl) (fun R_ hR_ => ?_)
  refine WC.seq (fun K1 hK1 => ?_)
  refine WC.region ?_
  refine WL.box HS rfl rfl (by decide) rfl rfl rfl (fun b2 w3 hb2 HS => ?_)
  refine as_ ?_
  refine WL.done ?_
  refine WQ.via (fun _ _ h_ => h_) hK1 ?_
  refine WC.seq (fun K4 hK4 => ?_)
  refine WC.region ?_
  refine v_ (Run.fieldAddr rfl rfl Try.underlying44 rfl (by kernel_rfl) rfl) ?_
  obtain ⟨A5, c6, hc7, le8⟩ := (at44_0 (AtK.whole (HS.getO 0 rfl))).slice
  replace HS := HS.deriveO (p := (fun W => (Kd.int .i64).C W A5 x0.f0.length x0.f0)) (fun W_ hO_ hN_ => (at44_0 (AtK.whole (AllF.get 0 rfl hO_))).C hc7)
  refine v_ (Run.load rfl rfl Try.underlying25 rfl (box_cell (HS.mu 0 rfl) hc7)) ?_
  refine mv_ ?_
  obtain ⟨t9, ha10, H⟩ := bind_some H
  refine c_ Try.func46 (laws_szIntS.calls A5 c6 x0.f0 a1 t9 _ (HS.getO 0 rfl) le8 ha10) ?_
  rintro _ w11 ⟨rfl, hb⟩
  have hb := hb.below
  replace HS := HS.below hb
  refine ⟨_, rfl, ?_⟩
  clear hb
  refine as_ ?_
  refine WL.done ?_
  refine WQ.via (fun _ _ h_ => h_) hK4 ?_
  refine WC.seq (fun K12 hK12 => ?_)
  refine WC.seq (fun K13 hK13 => ?_)
  refine WC.region ?_
  refine mv_ ?_
  refine v_ (Run.bin rfl rfl rfl bin_lss) ?_
  refine WL.done ?_
  refine WQ.via (fun _ _ h_ => h_) hK13 ?_
  by_cases c14 : t9 < 0
  · rw [if_pos c14] at H
    refine WC.yes rfl (decide_eq_true c14) ?_
    refine WC.seq (fun K15 hK15 => ?_)
    refine WC.region ?_
    refine as_ ?_
    refine WL.done ?_
    refine WQ.via (fun _ _ h_ => h_) hK15 ?_
    refine WC.ret ?_
    obtain rfl := Option.some.inj H
    refine WQ.fin (e' := .ret) (fn := Try.f19) (fun _ _ h_ => h_) (WQ.ret1 rfl rfl ?_)
    exact hR_ _ _ ⟨rfl, HS.b⟩
  · rw [if_neg c14] at H
    refine WC.no rfl (decide_eq_false c14) ?_
    refine WC.skip ?_
    refine WQ.via (fun _ _ h_ => h_) hK12 ?_
    refine WC.seq (fun K16 hK16 => ?_)
    refine WC.region ?_
    refine v_ (Run.fieldAddr rfl rfl Try.underlying44 rfl (by kernel_rfl) rfl) ?_
    obtain ⟨A17, c18, hc19, le20⟩ := (at44_2 (AtK.whole (HS.getO 1 rfl))).slice
    replace HS := HS.deriveO (p := (fun W => (Kd.slice 3 (Kd.int .i64)).C W A17 x0.f1.f1.length x0.f1.f1)) (fun W_ hO_ hN_ => (at44_2 (AtK.whole (AllF.get 1 rfl hO_))).C hc19)
    obtain ⟨A21, c22, hc23, le24⟩ := (at44_3 (AtK.whole (HS.getO 2 rfl))).slice
    replace HS := HS.deriveO (p := (fun W => (Kd.slice 3 (Kd.int .i64)).C W A21 x0.f1.f2.length x0.f1.f2)) (fun W_ hO_ hN_ => (at44_3 (AtK.whole (AllF.get 2 rfl hO_))).C hc23)
    refine v_ (Run.loadS (cs := [.int .i64 x0.f1.f0, .slice A17 x0.f1.f1.length c18, .slice A21 x0.f1.f2.length c22, .int .i64 x0.f1.f3, .int .i64 x0.f1.f4]) rfl rfl Try.underlying27 rfl (by kernel_rfl) (box_part (HS.mu 0 rfl) (part_cons (at44_1 (AtK.whole (HS.getO 3 rfl))).int (part_cons hc19 (part_cons hc23 (part_cons (at44_4 (AtK.whole (HS.getO 3 rfl))).int (part_cons (at44_5 (AtK.whole (HS.getO 3 rfl))).int part_nil))))))) ?_
    refine mv_ ?_
    obtain ⟨t25, ha26, H⟩ := bind_some H
    refine c_ Try.func47 (laws_szMatrix.calls k x0.f1.f0 A17 c18 x0.f1.f1 A21 c22 x0.f1.f2 x0.f1.f3 x0.f1.f4 t9 t25 _ (HS.getO 1 rfl) le20 (HS.getO 0 rfl) le24 ha26) ?_
    rintro _ w27 ⟨rfl, hb⟩
    replace HS := HS.below hb
    refine ⟨_, rfl, ?_⟩
    clear hb
    refine as_ ?_
    refine WL.done ?_
    refine WQ.via (fun _ _ h_ => h_) hK16 ?_
    refine WC.seq (fun K28 hK28 => ?_)
    refine WC.seq (fun K29 hK29 => ?_)
    refine WC.region ?_
    refine mv_ ?_
    refine v_ (Run.bin rfl rfl rfl bin_lss) ?_
    refine WL.done ?_
    refine WQ.via (fun _ _ h_ => h_) hK29 ?_
    by_cases c30 : t25 < 0
    · rw [if_pos c30] at H
      refine WC.yes rfl (decide_eq_true c30) ?_
      refine WC.seq (fun K31 hK31 => ?_)
      refine WC.region ?_
      refine as_ ?_
      refine WL.done ?_
      refine WQ.via (fun _ _ h_ => h_) hK31 ?_
      refine WC.ret ?_
      obtain rfl := Option.some.inj H
      refine WQ.fin (e' := .ret) (fn := Try.f19) (fun _ _ h_ => h_) (WQ.ret1 rfl rfl ?_)
      exact hR_ _ _ ⟨rfl, HS.b⟩
    · rw [if_neg c30] at H
      refine WC.no rfl (decide_eq_false c30) ?_
      refine WC.skip ?_
      refine WQ.via (fun _ _ h_ => h_) hK28 ?_
      refine WC.seq (fun K32 hK32 => ?_)
      refine WC.region ?_
      refine v_ (Run.fieldAddr rfl rfl Try.underlying44 rfl (by kernel_rfl) rfl) ?_
      obtain ⟨A33, c34, hc35, le36⟩ := (at44_7 (AtK.whole (HS.getO 3 rfl))).slice
      replace HS := HS.deriveO (p := (fun W => (Kd.slice 3 (Kd.int .i64)).C W A33 x0.f2.f1.length x0.f2.f1)) (fun W_ hO_ hN_ => (at44_7 (AtK.whole (AllF.get 3 rfl hO_))).C hc35)
      obtain ⟨A37, c38, hc39, le40⟩ := (at44_8 (AtK.whole (HS.getO 4 rfl))).slice
      replace HS := HS.deriveO (p := (fun W => (Kd.slice 3 (Kd.int .i64)).C W A37 x0.f2.f2.length x0.f2.f2)) (fun W_ hO_ hN_ => (at44_8 (AtK.whole (AllF.get 4 rfl hO_))).C hc39)
      refine v_ (Run.loadS (cs := [.int .i64 x0.f2.f0, .slice A33 x0.f2.f1.length c34, .slice A37 x0.f2.f2.length c38, .int .i64 x0.f2.f3, .int .i64 x0.f2.f4]) rfl rfl Try.underlying27 rfl (by kernel_rfl) (box_part (HS.mu 0 rfl) (part_cons (at44_6 (AtK.whole (HS.getO 5 rfl))).int (part_cons hc35 (part_cons hc39 (part_cons (at44_9 (AtK.whole (HS.getO 5 rfl))).int (part_cons (at44_10 (AtK.whole (HS.getO 5 rfl))).int part_nil))))))) ?_
      refine mv_ ?_
      obtain ⟨t41, ha42, H⟩ := bind_some H
      refine c_ Try.func47 (laws_szMatrix.calls k x0.f2.f0 A33 c34 x0.f2.f1 A37 c38 x0.f2.f2 x0.f2.f3 x0.f2.f4 t25 t41 _ (HS.getO 1 rfl) le36 (HS.getO 0 rfl) le40 ha42) ?_
      rintro _ w43 ⟨rfl, hb⟩
      replace HS := HS.below hb
      refine ⟨_, rfl, ?_⟩
      clear hb
      refine as_ ?_
      refine WL.done ?_
      refine WQ.via (fun _ _ h_ => h_) hK32 ?_
      refine WC.seq (fun K44 hK44 => ?_)
      refine WC.seq (fun K45 hK45 => ?_)
      refine WC.region ?_
      refine mv_ ?_
      refine v_ (Run.bin rfl rfl rfl bin_lss) ?_
      refine WL.done ?_
      refine WQ.via (fun _ _ h_ => h_) hK45 ?_
      by_cases c46 : t41 < 0
      · rw [if_pos c46] at H
        refine WC.yes rfl (decide_eq_true c46) ?_
        refine WC.seq (fun K47 hK47 => ?_)
        refine WC.region ?_
        refine as_ ?_
        refine WL.done ?_
        refine WQ.via (fun _ _ h_ => h_) hK47 ?_
        refine WC.ret ?_
        obtain rfl := Option.some.inj H
        refine WQ.fin (e' := .ret) (fn := Try.f19) (fun _ _ h_ => h_) (WQ.ret1 rfl rfl ?_)
        exact hR_ _ _ ⟨rfl, HS.b⟩
      · rw [if_neg c46] at H
        refine WC.no rfl (decide_eq_false c46) ?_
        refine WC.skip ?_
        refine WQ.via (fun _ _ h_ => h_) hK44 ?_
        refine WC.seq (fun K48 hK48 => ?_)
        refine WC.region ?_
        refine v_ (Run.fieldAddr rfl rfl Try.underlying44 rfl (by kernel_rfl) rfl) ?_
        obtain ⟨A49, c50, hc51, le52⟩ := (at44_12 (AtK.whole (HS.getO 5 rfl))).slice
        replace HS := HS.deriveO (p := (fun W => (Kd.slice 3 (Kd.int .i64)).C W A49 x0.f3.f1.length x0.f3.f1)) (fun W_ hO_ hN_ => (at44_12 (AtK.whole (AllF.get 5 rfl hO_))).C hc51)
        obtain ⟨A53, c54, hc55, le56⟩ := (at44_13 (AtK.whole (HS.getO 6 rfl))).slice
        replace HS := HS.deriveO (p := (fun W => (Kd.slice 3 (Kd.int .i64)).C W A53 x0.f3.f2.length x0.f3.f2)) (fun W_ hO_ hN_ => (at44_13 (AtK.whole (AllF.get 6 rfl hO_))).C hc55)
        refine v_ (Run.loadS (cs := [.int .i64 x0.f3.f0, .slice A49 x0.f3.f1.length c50, .slice A53 x0.f3.f2.length c54, .int .i64 x0.f3.f3, .int .i64 x0.f3.f4]) rfl rfl Try.underlying27 rfl (by kernel_rfl) (box_part (HS.mu 0 rfl) (part_cons (at44_11 (AtK.whole (HS.getO 7 rfl))).int (part_cons hc51 (part_cons hc55 (part_cons (at44_14 (AtK.whole (HS.getO 7 rfl))).int (part_cons (at44_15 (AtK.whole (HS.getO 7 rfl))).int part_nil))))))) ?_
        refine mv_ ?_
        obtain ⟨t57, ha58, H⟩ := bind_some H
        refine c_ Try.func47 (laws_szMatrix.calls k x0.f3.f0 A49 c50 x0.f3.f1 A53 c54 x0.f3.f2 x0.f3.f3 x0.f3.f4 t41 t57 _ (HS.getO 1 rfl) le52 (HS.getO 0 rfl) le56 ha58) ?_
        rintro _ w59 ⟨rfl, hb⟩
        replace HS := HS.below hb
        refine ⟨_, rfl, ?_⟩
        clear hb
        refine as_ ?_
        refine WL.done ?_
        refine WQ.via (fun _ _ h_ => h_) hK48 ?_
        refine WC.seq (fun K60 hK60 => ?_)
        refine WC.seq (fun K61 hK61 => ?_)
        refine WC.region ?_
        refine mv_ ?_
        refine v_ (Run.bin rfl rfl rfl bin_lss) ?_
        refine WL.done ?_
        refine WQ.via (fun _ _ h_ => h_) hK61 ?_
        by_cases c62 : t57 < 0
        · rw [if_pos c62] at H
          refine WC.yes rfl (decide_eq_true c62) ?_
          refine WC.seq (fun K63 hK63 => ?_)
          refine WC.region ?_
          refine as_ ?_
          refine WL.done ?_
          refine WQ.via (fun _ _ h_ => h_) hK63 ?_
          refine WC.ret ?_
          obtain rfl := Option.some.inj H
          refine WQ.fin (e' := .ret) (fn := Try.f19) (fun _ _ h_ => h_) (WQ.ret1 rfl rfl ?_)
          exact hR_ _ _ ⟨rfl, HS.b⟩
        · rw [if_neg c62] at H
          refine WC.no rfl (decide_eq_false c62) ?_
          refine WC.skip ?_
          refine WQ.via (fun _ _ h_ => h_) hK60 ?_
          refine WC.seq (fun K64 hK64 => ?_)
          refine WC.region ?_
          refine v_ (Run.fieldAddr rfl rfl Try.underlying44 rfl (by kernel_rfl) rfl) ?_
          obtain ⟨A65, c66, hc67, le68⟩ := (at44_17 (AtK.whole (HS.getO 7 rfl))).slice
          replace HS := HS.deriveO (p := (fun W => (Kd.slice 3 (Kd.int .i64)).C W A65 x0.f4.f1.length x0.f4.f1)) (fun W_ hO_ hN_ => (at44_17 (AtK.whole (AllF.get 7 rfl hO_))).C hc67)
          obtain ⟨A69, c70, hc71, le72⟩ := (at44_18 (AtK.whole (HS.getO 8 rfl))).slice
          replace HS := HS.deriveO (p := (fun W => (Kd.slice 3 (Kd.int .i64)).C W A69 x0.f4.f2.length x0.f4.f2)) (fun W_ hO_ hN_ => (at44_18 (AtK.whole (AllF.get 8 rfl hO_))).C hc71)
          refine v_ (Run.loadS (cs := [.int .i64 x0.f4.f0, .slice A65 x0.f4.f1.length c66, .slice A69 x0.f4.f2.length c70, .int .i64 x0.f4.f3, .int .i64 x0.f4.f4]) rfl rfl Try.underlying27 rfl (by kernel_rfl) (box_part (HS.mu 0 rfl) (part_cons (at44_16 (AtK.whole (HS.getO 9 rfl))).int (part_cons hc67 (part_cons hc71 (part_cons (at44_19 (AtK.whole (HS.getO 9 rfl))).int (part_cons (at44_20 (AtK.whole (HS.getO 9 rfl))).int part_nil))))))) ?_
          refine mv_ ?_
          obtain ⟨t73, ha74, H⟩ := bind_some H
          refine c_ Try.func47 (laws_szMatrix.calls k x0.f4.f0 A65 c66 x0.f4.f1 A69 c70 x0.f4.f2 x0.f4.f3 x0.f4.f4 t57 t73 _ (HS.getO 1 rfl) le68 (HS.getO 0 rfl) le72 ha74) ?_
          rintro _ w75 ⟨rfl, hb⟩
          replace HS := HS.below hb
          refine ⟨_, rfl, ?_⟩
          clear hb
          refine as_ ?_
          refine WL.done ?_
          refine WQ.via (fun _ _ h_ => h_) hK64 ?_
          refine WC.seq (fun K76 hK76 => ?_)
          refine WC.seq (fun K77 hK77 => ?_)
          refine WC.region ?_
          refine mv_ ?_
          refine v_ (Run.bin rfl rfl rfl bin_lss) ?_
          refine WL.done ?_
          refine WQ.via (fun _ _ h_ => h_) hK77 ?_
          by_cases c78 : t73 < 0
          · rw [if_pos c78] at H
            refine WC.yes rfl (decide_eq_true c78) ?_
            refine WC.seq (fun K79 hK79 => ?_)
            refine WC.region ?_
            refine as_ ?_
            refine WL.done ?_
            refine WQ.via (fun _ _ h_ => h_) hK79 ?_
            refine WC.ret ?_
            obtain rfl := Option.some.inj H
            refine WQ.fin (e' := .ret) (fn := Try.f19) (fun _ _ h_ => h_) (WQ.ret1 rfl rfl ?_)
            exact hR_ _ _ ⟨rfl, HS.b⟩
          · rw [if_neg c78] at H
            refine WC.no rfl (decide_eq_false c78) ?_
            refine WC.skip ?_
            refine WQ.via (fun _ _ h_ => h_) hK76 ?_
            refine WC.seq (fun K80 hK80 => ?_)
            refine WC.region ?_
            refine v_ (Run.fieldAddr rfl rfl Try.underlying44 rfl (by kernel_rfl) rfl) ?_
            obtain ⟨A81, c82, hc83, le84⟩ := (at44_21 (AtK.whole (HS.getO 9 rfl))).slice
            replace HS := HS.deriveO (p := (fun W => (Kd.int .i64).C W A81 x0.f5.length x0.f5)) (fun W_ hO_ hN_ => (at44_21 (AtK.whole (AllF.get 9 rfl hO_))).C hc83)
            refine v_ (Run.load rfl rfl Try.underlying25 rfl (box_cell (HS.mu 0 rfl) hc83)) ?_
            refine mv_ ?_
            obtain ⟨t85, ha86, H⟩ := bind_some H
            refine c_ Try.func46 (laws_szIntS.calls A81 c82 x0.f5 t73 t85 _ (HS.getO 0 rfl) le84 ha86) ?_
            rintro _ w87 ⟨rfl, hb⟩
            have hb := hb.below
            replace HS := HS.below hb
            refine ⟨_, rfl, ?_⟩
            clear hb
            refine as_ ?_
            refine WL.done ?_
            refine WQ.via (fun _ _ h_ => h_) hK80 ?_
            refine WC.seq (fun K88 hK88 => ?_)
            refine WC.seq (fun K89 hK89 => ?_)
            refine WC.region ?_
            refine mv_ ?_
            refine v_ (Run.bin rfl rfl rfl bin_lss) ?_
            refine WL.done ?_
            refine WQ.via (fun _ _ h_ => h_) hK89 ?_
            by_cases c90 : t85 < 0
            · rw [if_pos c90] at H
              refine WC.yes rfl (decide_eq_true c90) ?_
              refine WC.seq (fun K91 hK91 => ?_)
              refine WC.region ?_
              refine as_ ?_
              refine WL.done ?_
              refine WQ.via (fun _ _ h_ => h_) hK91 ?_
              refine WC.ret ?_
              obtain rfl := Option.some.inj H
              refine WQ.fin (e' := .ret) (fn := Try.f19) (fun _ _ h_ => h_) (WQ.ret1 rfl rfl ?_)
              exact hR_ _ _ ⟨rfl, HS.b⟩
            · rw [if_neg c90] at H
              refine WC.no rfl (decide_eq_false c90) ?_
              refine WC.skip ?_
              refine WQ.via (fun _ _ h_ => h_) hK88 ?_
              refine WC.seq (fun K92 hK92 => ?_)
              refine WC.region ?_
              refine v_ (Run.fieldAddr rfl rfl Try.underlying44 rfl (by kernel_rfl) rfl) ?_
              obtain ⟨A93, c94, hc95, le96⟩ := (at44_23 (AtK.whole (HS.getO 10 rfl))).slice
              replace HS := HS.deriveO (p := (fun W => (Kd.slice 3 (Kd.int .i64)).C W A93 x0.f6.f1.length x0.f6.f1)) (fun W_ hO_ hN_ => (at44_23 (AtK.whole (AllF.get 10 rfl hO_))).C hc95)
              obtain ⟨A97, c98, hc99, le100⟩ := (at44_24 (AtK.whole (HS.getO 11 rfl))).slice
              replace HS := HS.deriveO (p := (fun W => (Kd.slice 3 (Kd.int .i64)).C W A97 x0.f6.f2.length x0.f6.f2)) (fun W_ hO_ hN_ => (at44_24 (AtK.whole (AllF.get 11 rfl hO_))).C hc99)
              refine v_ (Run.loadS (cs := [.int .i64 x0.f6.f0, .slice A93 x0.f6.f1.length c94, .slice A97 x0.f6.f2.length c98, .int .i64 x0.f6.f3, .int .i64 x0.f6.f4]) rfl rfl Try.underlying27 rfl (by kernel_rfl) (box_part (HS.mu 0 rfl) (part_cons (at44_22 (AtK.whole (HS.getO 12 rfl))).int (part_cons hc95 (part_cons hc99 (part_cons (at44_25 (AtK.whole (HS.getO 12 rfl))).int (part_cons (at44_26 (AtK.whole (HS.getO 12 rfl))).int part_nil))))))) ?_
              refine mv_ ?_
              obtain ⟨t101, ha102, H⟩ := bind_some H
              refine c_ Try.func47 (laws_szMatrix.calls k x0.f6.f0 A93 c94 x0.f6.f1 A97 c98 x0.f6.f2 x0.f6.f3 x0.f6.f4 t85 t101 _ (HS.getO 1 rfl) le96 (HS.getO 0 rfl) le100 ha102) ?_
              rintro _ w103 ⟨rfl, hb⟩
              replace HS := HS.below hb
              refine ⟨_, rfl, ?_⟩
              clear hb
              refine as_ ?_
              refine WL.done ?_
              refine WQ.via (fun _ _ h_ => h_) hK92 ?_
              refine WC.seq (fun K104 hK104 => ?_)
              refine WC.seq (fun K105 hK105 => ?_)
              refine WC.region ?_
              refine mv_ ?_
              refine v_ (Run.bin rfl rfl rfl bin_lss) ?_
              refine WL.done ?_
              refine WQ.via (fun _ _ h_ => h_) hK105 ?_
              by_cases c106 : t101 < 0
              · rw [if_pos c106] at H
                refine WC.yes rfl (decide_eq_true c106) ?_
                refine WC.seq (fun K107 hK107 => ?_)
                refine WC.region ?_
                refine as_ ?_
                refine WL.done ?_
                refine WQ.via (fun _ _ h_ => h_) hK107 ?_
                refine WC.ret ?_
                obtain rfl := Option.some.inj H
                refine WQ.fin (e' := .ret) (fn := Try.f19) (fun _ _ h_ => h_) (WQ.ret1 rfl rfl ?_)
                exact hR_ _ _ ⟨rfl, HS.b⟩
              · rw [if_neg c106] at H
                refine WC.no rfl (decide_eq_false c106) ?_
                refine WC.skip ?_
                refine WQ.via (fun _ _ h_ => h_) hK104 ?_
                refine WC.seq (fun K108 hK108 => ?_)
                refine WC.region ?_
                refine v_ (Run.fieldAddr rfl rfl Try.underlying44 rfl (by kernel_rfl) rfl) ?_
                obtain ⟨A109, c110, hc111, le112⟩ := (at44_28 (AtK.whole (HS.getO 12 rfl))).slice
                replace HS := HS.deriveO (p := (fun W => (Kd.slice 3 (Kd.int .i64)).C W A109 x0.f7.f1.length x0.f7.f1)) (fun W_ hO_ hN_ => (at44_28 (AtK.whole (AllF.get 12 rfl hO_))).C hc111)
                obtain ⟨A113, c114, hc115, le116⟩ := (at44_29 (AtK.whole (HS.getO 13 rfl))).slice
                replace HS := HS.deriveO (p := (fun W => (Kd.slice 3 (Kd.int .i64)).C W A113 x0.f7.f2.length x0.f7.f2)) (fun W_ hO_ hN_ => (at44_29 (AtK.whole (AllF.get 13 rfl hO_))).C hc115)
                refine v_ (Run.loadS (cs := [.int .i64 x0.f7.f0, .slice A109 x0.f7.f1.length c110, .slice A113 x0.f7.f2.length c114, .int .i64 x0.f7.f3, .int .i64 x0.f7.f4]) rfl rfl Try.underlying27 rfl (by kernel_rfl) (box_part (HS.mu 0 rfl) (part_cons (at44_27 (AtK.whole (HS.getO 14 rfl))).int (part_cons hc111 (part_cons hc115 (part_cons (at44_30 (AtK.whole (HS.getO 14 rfl))).int (part_cons (at44_31 (AtK.whole (HS.getO 14 rfl))).int part_nil))))))) ?_
                refine mv_ ?_
                obtain ⟨t117, ha118, H⟩ := bind_some H
                refine c_ Try.func47 (laws_szMatrix.calls k x0.f7.f0 A109 c110 x0.f7.f1 A113 c114 x0.f7.f2 x0.f7.f3 x0.f7.f4 t101 t117 _ (HS.getO 1 rfl) le112 (HS.getO 0 rfl) le116 ha118) ?_
                rintro _ w119 ⟨rfl, hb⟩
                replace HS := HS.below hb
                refine ⟨_, rfl, ?_⟩
                clear hb
                refine as_ ?_
                refine WL.done ?_
                refine WQ.via (fun _ _ h_ => h_) hK108 ?_
                refine WC.seq (fun K120 hK120 => ?_)
                refine WC.seq (fun K121 hK121 => ?_)
                refine WC.region ?_
                refine mv_ ?_
                refine v_ (Run.bin rfl rfl rfl bin_lss) ?_
                refine WL.done ?_
                refine WQ.via (fun _ _ h_ => h_) hK121 ?_
                by_cases c122 : t117 < 0
                · rw [if_pos c122] at H
                  refine WC.yes rfl (decide_eq_true c122) ?_
                  refine WC.seq (fun K123 hK123 => ?_)
                  refine WC.region ?_
                  refine as_ ?_
                  refine WL.done ?_
                  refine WQ.via (fun _ _ h_ => h_) hK123 ?_
                  refine WC.ret ?_
                  obtain rfl := Option.some.inj H
                  refine WQ.fin (e' := .ret) (fn := Try.f19) (fun _ _ h_ => h_) (WQ.ret1 rfl rfl ?_)
                  exact hR_ _ _ ⟨rfl, HS.b⟩
                · rw [if_neg c122] at H
                  refine WC.no rfl (decide_eq_false c122) ?_
                  refine WC.skip ?_
                  refine WQ.via (fun _ _ h_ => h_) hK120 ?_
                  refine WC.seq (fun K124 hK124 => ?_)
                  refine WC.region ?_
                  refine mv_ ?_
                  refine as_ ?_
                  refine WL.done ?_
                  refine WQ.via (fun _ _ h_ => h_) hK124 ?_
                  refine WC.ret ?_
                  obtain rfl := Option.some.inj H
                  refine WQ.fin (e' := .ret) (fn := Try.f19) (fun _ _ h_ => h_) (WQ.ret1 rfl rfl ?_)
                  exact hR_ _ _ ⟨rfl, HS.b⟩
def laws_szLayerS.b0 (l0 : List S44) (rec_ : Int → Int → Option (Int ⊕ (Int × Int))) (k20 : Nat) (i13 : Int) (i14 : Int) : Option (Int ⊕ (Int × Int)) := (if i14 < (l0.length : Int) then (if 0 ≤ i14 ∧ i14 < (l0.length : Int) then ((laws_szLayer.g k20 (l0.getD i14.toNat o44) i13).bind fun t31 => (if t31 < 0 then (some (Sum.inl (-1))) else (rec_ t31 (wrap64 (i14 + 1))))) else none) else (some (Sum.inr (i13, i14))))
def laws_szLayerS.l0 (l0 : List S44) : Nat → Int → Int → Option (Int ⊕ (Int × Int))
  | 0, _, _ => none
  | k + 1, i13, i14 => laws_szLayerS.b0 l0 (laws_szLayerS.l0 l0 k) k i13 i14
def laws_szLayerS.g (k : Nat) (l0 : List S44) (a1 : Int) : Option Int := (if (wrap64 (a1 - (l0.length : Int))) < 0 then (some (-1)) else ((laws_szLayerS.l0 l0 k (wrap64 (a1 - (l0.length : Int))) 0).bind (fun o18 => match o18 with | .inl r_ => some r_ | .inr ⟨i13, i14⟩ => (some i13))))
set_option maxHeartbeats 4000000 in
set_option maxRecDepth 20000 in
theorem laws_szLayerS.runs (k : Nat) (A0 : Option Addr) (c0 : Nat) (l0 : List S44) (a1 : Int) (r : Int) (w : World) (hr0 : k44.C w A0 l0.length l0) (hc0 : l0.length ≤ c0) (H : laws_szLayerS.g k l0 a1 = some r) :
    Calls Try.prog 45 #[.slice A0 l0.length c0, .int .i64 a1] w fun e w' => e = .returned (.int .i64 r) ∧ Below w.heap.size w w' := by
  unfold laws_szLayerS.g at H
  have HS : St (fun _ => True) w w [] [(fun W => k44.C W A0 l0.length l0)] [] := St.start (foot_cons (foot_C h44 hr0) foot_nil)
  refine calls_W Try.func45 rfl rfl (Nat.le_of_ble_eq_true rfl) (fun R_ hR_ => ?_)
  refine WC.seq (fun K1 hK1 => ?_)
  refine WC.region ?_
  refine as_ ?_
  refine WL.done ?_
  refine WQ.via (fun _ _ h_ => h_) hK1 ?_
  refine WC.seq (fun K2 hK2 => ?_)
  refine WC.region ?_
  refine mv_ ?_
  refine mv_ ?_
  refine v_ (Run.len (ts := #[]) rfl Try.underlying24 rfl) ?_
  refine v_ (Run.bin rfl rfl rfl bin_sub64) ?_
  refine as_ ?_
  refine WL.done ?_
  refine WQ.via (fun _ _ h_ => h_) hK2 ?_
  refine WC.seq (fun K3 hK3 => ?_)
  refine WC.seq (fun K4 hK4 => ?_)
  refine WC.region ?_
  refine mv_ ?_
  refine v_ (Run.bin rfl rfl rfl bin_lss) ?_
  refine WL.done ?_
  refine WQ.via (fun _ _ h_ => h_) hK4 ?_
  by_cases c5 : (wrap64 (a1 - (l0.length : Int))) < 0
  · rw [if_pos c5] at H
    refine WC.yes rfl (decide_eq_true c5) ?_
    refine WC.seq (fun K6 hK6 => ?_)
    refine WC.region ?_
    refine as_ ?_
    refine WL.done ?_
    refine WQ.via (fun _ _ h_ => h_) hK6 ?_
    refine WC.ret ?_
    obtain rfl := Option.some.inj H
    refine WQ.fin (e' := .ret) (fn := Try.f45) (fun _ _ h_ => h_) (WQ.ret1 rfl rfl ?_)
    exact hR_ _ _ ⟨rfl, HS.b⟩
  · rw [if_neg c5] at H
    refine WC.no rfl (decide_eq_false c5) ?_
    refine WC.skip ?_
    refine WQ.via (fun _ _ h_ => h_) hK3 ?_
    refine WC.seq (fun K7 hK7 => ?_)
    refine WC.seq (fun K8 hK8 => ?_)
    refine WC.region ?_
    refine as_ ?_
    refine WL.done ?_
    refine WQ.via (fun _ _ h_ => h_) hK8 ?_
    refine WC.block ?_
    obtain ⟨G9, hG10, o11, H, Ho12⟩ := open_G H
    have X15 : ∀ E_ W_, (∃ (i13 : Int) (i14 : Int), E_ = [(0, .slice A0 l0.length c0), (1, .int .i64 i13), (5, .int .i64 i14)] ∧ G9 (Sum.inr (i13, i14)) = some r ∧ St (fun _ => True) w W_ [] [(fun W => k44.C W A0 l0.length l0)] []) → ∀ a, Fits a 27 E_ → K7 a W_ := by
      rintro E_ w16 ⟨i13, i14, rfl, H, HS⟩
      rw [hG10] at H
      (try dsimp only at H)
      refine hK7 _ _ ?_
      refine WC.seq (fun K17 hK17 => ?_)
      refine WC.region ?_
      refine mv_ ?_
      refine as_ ?_
      refine WL.done ?_
      refine WQ.via (fun _ _ h_ => h_) hK17 ?_
      refine WC.ret ?_
      obtain rfl := Option.some.inj H
      refine WQ.fin (e' := .ret) (fn := Try.f45) (fun _ _ h_ => h_) (WQ.ret1 rfl rfl ?_)
      exact hR_ _ _ ⟨rfl, HS.b⟩
    refine WC.loop (fun k_ E_ W_ => ∃ (i13 : Int) (i14 : Int), E_ = [(0, .slice A0 l0.length c0), (1, .int .i64 i13), (5, .int .i64 i14)] ∧ (∃ o_, laws_szLayerS.l0 l0 k_ i13 i14 = some o_ ∧ G9 o_ = some r) ∧ St (fun _ => True) w W_ [] [(fun W => k44.C W A0 l0.length l0)] []) k ⟨(wrap64 (a1 - (l0.length : Int))), 0, rfl, ⟨_, H, Ho12⟩, (HS.pick (fun W_ h_ => ⟨AllF.get 0 rfl h_, trivial⟩) (fun W_ h_ => trivial))⟩ ⟨rfl, rfl, rfl, trivial⟩ ?_
    rintro k_ E_ w19 ⟨i13, i14, rfl, ⟨o11, H, Ho12⟩, HS⟩
    rcases k_ with _ | k20
    · exact (Option.some_ne_none _ (show none = some _ from H).symm).elim
    replace H : laws_szLayerS.b0 l0 (laws_szLayerS.l0 l0 k20) k20 i13 i14 = some o11 := H
    unfold laws_szLayerS.b0 at H
    refine WC.seq (fun K21 hK21 => ?_)
    refine WC.seq (fun K22 hK22 => ?_)
    refine WC.region ?_
    refine mv_ ?_
    refine mv_ ?_
    refine v_ (Run.len (ts := #[]) rfl Try.underlying24 rfl) ?_
    refine v_ (Run.bin rfl rfl rfl bin_lss) ?_
    refine WL.done ?_
    refine WQ.via (fun _ _ h_ => h_) hK22 ?_
    by_cases c23 : i14 < (l0.length : Int)
    · rw [if_pos c23] at H
      refine WC.yes rfl (decide_eq_true c23) ?_
      refine WC.skip ?_
      refine WQ.via (fun _ _ h_ => h_) hK21 ?_
      refine WC.seq (fun K24 hK24 => ?_)
      refine WC.block ?_
      refine WC.seq (fun K25 hK25 => ?_)
      refine WC.region ?_
      refine mv_ ?_
      refine mv_ ?_
      obtain ⟨⟨q26, q27⟩, H⟩ := if_some H
      obtain ⟨ad28, rfl⟩ := C_open (HS.getO 0 rfl) (by omega)
      refine v_ (Run.indexAddr rfl rfl rfl Try.underlying24 (sz := 32) (by kernel_rfl) q26 q27) ?_
      obtain ⟨e29, el30, HS⟩ := HS.elO 0 rfl (by decide) o44 i14 q26 q27
      replace HS := HS.deriveO (p := (fun W => k44.K W (l0.getD i14.toNat o44) e29)) (fun W_ hO_ hN_ => (AllF.get 0 rfl hO_).1)
      refine v_ (Run.loadS (cs := e29) rfl rfl Try.underlying44 rfl (by rw [el30]; kernel_rfl) (HS.getO 1 rfl).2) ?_
      refine mv_ ?_
      obtain ⟨t31, ha32, H⟩ := bind_some H
      refine c_ Try.func19 (laws_szLayer.runs k20 e29 (l0.getD i14.toNat o44) i13 t31 _ (HS.getO 0 rfl) ha32) ?_
      rintro _ w33 ⟨rfl, hb⟩
      replace HS := HS.below hb
      refine ⟨_, rfl, ?_⟩
      clear hb
      refine as_ ?_
      refine WL.done ?_
      refine WQ.via (fun _ _ h_ => h_) hK25 ?_
      refine WC.seq (fun K34 hK34 => ?_)
      refine WC.region ?_
      refine mv_ ?_
      refine v_ (Run.bin rfl rfl rfl bin_lss) ?_
      refine WL.done ?_
      refine WQ.via (fun _ _ h_ => h_) hK34 ?_
      by_cases c35 : t31 < 0
      · rw [if_pos c35] at H
        refine WC.yes rfl (decide_eq_true c35) ?_
        refine WC.seq (fun K36 hK36 => ?_)
        refine WC.region ?_
        refine as_ ?_
        refine WL.done ?_
        refine WQ.via (fun _ _ h_ => h_) hK36 ?_
        refine WC.ret ?_
        obtain rfl := Option.some.inj H
        rw [hG10] at Ho12
        replace H : some _ = some _ := Ho12
        obtain rfl := Option.some.inj H
        refine WQ.fin (e' := .ret) (fn := Try.f45) (fun _ _ h_ => h_) (WQ.ret1 rfl rfl ?_)
        exact hR_ _ _ ⟨rfl, HS.b⟩
      · rw [if_neg c35] at H
        refine WC.no rfl (decide_eq_false c35) ?_
        refine WC.skip ?_
        refine WQ.via (fun _ _ h_ => h_) hK24 ?_
        refine WC.region ?_
        refine mv_ ?_
        refine v_ (Run.bin rfl rfl rfl bin_add64) ?_
        refine as_ ?_
        refine WL.done ?_
        exact WQ.round k20 (fun _ _ h_ => h_) (Nat.lt_succ_self _) ⟨t31, (wrap64 (i14 + 1)), rfl, ⟨_, H, Ho12⟩, (HS.pick (fun W_ h_ => ⟨AllF.get 2 rfl h_, trivial⟩) (fun W_ h_ => trivial))⟩ ⟨rfl, rfl, rfl, trivial⟩
    · rw [if_neg c23] at H
      refine WC.no rfl (decide_eq_false c23) ?_
      refine WC.exit ?_
      obtain rfl := Option.some.inj H
      exact WQ.via2 (fun _ _ h_ => h_) X15 ⟨i13, i14, rfl, Ho12, (HS.pick (fun W_ h_ => ⟨AllF.get 0 rfl h_, trivial⟩) (fun W_ h_ => trivial))⟩ ⟨rfl, rfl, rfl, trivial⟩
def laws_szModel.g (k : Nat) (x0 : S31) (a1 : Int) : Option Int := ((laws_szMergeS.f x0.f3 a1).bind fun t9 => (if t9 < 0 then (some (-1)) else ((laws_szIntSS.f k x0.f4 t9).bind fun t21 => (if t21 < 0 then (some (-1)) else ((laws_szLayerS.g k x0.f5 t21).bind fun t33 => (if t33 < 0 then (some (-1)) else ((laws_szIntS.f x0.f6 t33).bind fun t45 => (if t45 < 0 then (some (-1)) else ((laws_szMatrix.f k x0.f7.f0 x0.f7.f1 x0.f7.f2 x0.f7.f3 x0.f7.f4 t45).bind fun t61 => (if t61 < 0 then (some (-1)) else ((laws_szTurns.f k x0.f8.f0 x0.f8.f1 t61).bind fun t77 => (if t77 < 0 then (some (-1)) else (some t77)))))))))))))
set_option maxHeartbeats 4000000 in
set_option maxRecDepth 20000 in
theorem laws_szModel.runs (k : Nat) (cs0 : List Value) (x0 : S31) (a1 : Int) (r : Int) (w : World) (hk0 : k31.K w x0 cs0) (H : laws_szModel.g k x0 a1 = some r) :
    Calls Try.prog 14 #[.agg cs0.toArray, .int .i64 a1] w fun e w' => e = .returned (.int .i64 r) ∧ Below w.heap.size w w' := by
  have el0 : cs0.length = 14 := k31.K_len hk0
  unfold laws_szModel.g at H
  have HS : St (fun _ => True) w w [] [(fun W => k31.K W x0 cs0)] [] := St.start (foot_cons (foot_K h31 hk0) foot_nil)
  refine calls_W Try.func14 rfl rfl (Nat.le_of_ble_eq_true rfl) (fun R_ hR_ => ?_)
  refine WC.seq (fun K1 hK1 => ?_)
  refine WC.region ?_
  refine WL.box HS rfl rfl (by decide) rfl rfl rfl (fun b2 w3 hb2 HS => ?_)
  refine as_ ?_
  refine WL.done ?_
  refine WQ.via (fun _ _ h_ => h_) hK1 ?_
  refine WC.seq (fun K4 hK4 => ?_)
  refine WC.region ?_
  refine v_ (Run.fieldAddr rfl rfl Try.underlying31 rfl (by kernel_rfl) rfl) ?_
  obtain ⟨A5, c6, hc7, le8⟩ := (at31_3 (AtK.whole (HS.getO 0 rfl))).slice
  replace HS := HS.deriveO (p := (fun W => k129.C W A5 x0.f3.length x0.f3)) (fun W_ hO_ hN_ => (at31_3 (AtK.whole (AllF.get 0 rfl hO_))).C hc7)
  refine v_ (Run.load rfl rfl Try.underlying22 rfl (box_cell (HS.mu 0 rfl) hc7)) ?_
  refine mv_ ?_
  obtain ⟨t9, ha10, H⟩ := bind_some H
  refine c_ Try.func43 (laws_szMergeS.calls A5 c6 x0.f3 a1 t9 _ (HS.getO 0 rfl) le8 ha10) ?_
  rintro _ w11 ⟨rfl, hb⟩
  have hb := hb.below
  replace HS := HS.below hb
  refine ⟨_, rfl, ?_⟩
  clear hb
  refine as_ ?_
  refine WL.done ?_
  refine WQ.via (fun _ _ h_ => h_) hK4 ?_
  refine WC.seq (fun K12 hK12 => ?_)
  refine WC.seq (fun K13 hK13 => ?_)
  refine WC.region ?_
  refine mv_ ?_
  refine v_ (Run.bin rfl rfl rfl bin_lss) ?_
  refine WL.done ?_
  refine WQ.via (fun _ _ h_ => h_) hK13 ?_
  by_cases c14 : t9 < 0
  · rw [if_pos c14] at H
    refine WC.yes rfl (decide_eq_true c14) ?_
    refine WC.seq (fun K15 hK15 => ?_)
    refine WC.region ?_
    refine as_ ?_
    refine WL.done ?_
    refine WQ.via (fun _ _ h_ => h_) hK15 ?_
    refine WC.ret ?_
    obtain rfl := Option.some.inj H
    refine WQ.fin (e' := .ret) (fn := Try.f14) (fun _ _ h_ => h_) (WQ.ret1 rfl rfl ?_)
    exact hR_ _ _ ⟨rfl, HS.b⟩
  · rw [if_neg c14] at H
    refine WC.no rfl (decide_eq_false c14) ?_
    refine WC.skip ?_
    refine WQ.via (fun _ _ h_ => h_) hK12 ?_
    refine WC.seq (fun K16 hK16 => ?_)
    refine WC.region ?_
    refine v_ (Run.fieldAddr rfl rfl Try.underlying31 rfl (by kernel_rfl) rfl) ?_
    obtain ⟨A17, c18, hc19, le20⟩ := (at31_4 (AtK.whole (HS.getO 1 rfl))).slice
    replace HS := HS.deriveO (p := (fun W => (Kd.slice 3 (Kd.int .i64)).C W A17 x0.f4.length x0.f4)) (fun W_ hO_ hN_ => (at31_4 (AtK.whole (AllF.get 1 rfl hO_))).C hc19)
    refine v_ (Run.load rfl rfl Try.underlying23 rfl (box_cell (HS.mu 0 rfl) hc19)) ?_
    refine mv_ ?_
    obtain ⟨t21, ha22, H⟩ := bind_some H
    refine c_ Try.func44 (laws_szIntSS.calls k A17 c18 x0.f4 t9 t21 _ (HS.getO 0 rfl) le20 ha22) ?_
    rintro _ w23 ⟨rfl, hb⟩
    have hb := hb.below
    replace HS := HS.below hb
    refine ⟨_, rfl, ?_⟩
    clear hb
    refine as_ ?_
    refine WL.done ?_
    refine WQ.via (fun _ _ h_ => h_) hK16 ?_
    refine WC.seq (fun K24 hK24 => ?_)
    refine WC.seq (fun K25 hK25 => ?_)
    refine WC.region ?_
    refine mv_ ?_
    refine v_ (Run.bin rfl rfl rfl bin_lss) ?_
    refine WL.done ?_
    refine WQ.via (fun _ _ h_ => h_) hK25 ?_
    by_cases c26 : t21 < 0
    · rw [if_pos c26] at H
      refine WC.yes rfl (decide_eq_true c26) ?_
      refine WC.seq (fun K27 hK27 => ?_)
      refine WC.region ?_
      refine as_ ?_
      refine WL.done ?_
      refine WQ.via (fun _ _ h_ => h_) hK27 ?_
      refine WC.ret ?_
      obtain rfl := Option.some.inj H
      refine WQ.fin (e' := .ret) (fn := Try.f14) (fun _ _ h_ => h_) (WQ.ret1 rfl rfl ?_)
      exact hR_ _ _ ⟨rfl, HS.b⟩
    · rw [if_neg c26] at H
      refine WC.no rfl (decide_eq_false c26) ?_
      refine WC.skip ?_
      refine WQ.via (fun _ _ h_ => h_) hK24 ?_
      refine WC.seq (fun K28 hK28 => ?_)
      refine WC.region ?_
      refine v_ (Run.fieldAddr rfl rfl Try.underlying31 rfl (by kernel_rfl) rfl) ?_
      obtain ⟨A29, c30, hc31, le32⟩ := (at31_5 (AtK.whole (HS.getO 2 rfl))).slice
      replace HS := HS.deriveO (p := (fun W => k44.C W A29 x0.f5.length x0.f5)) (fun W_ hO_ hN_ => (at31_5 (AtK.whole (AllF.get 2 rfl hO_))).C hc31)
      refine v_ (Run.load rfl rfl Try.underlying24 rfl (box_cell (HS.mu 0 rfl) hc31)) ?_
      refine mv_ ?_
      obtain ⟨t33, ha34, H⟩ := bind_some H
      refine c_ Try.func45 (laws_szLayerS.runs k A29 c30 x0.f5 t21 t33 _ (HS.getO 0 rfl) le32 ha34) ?_
      rintro _ w35 ⟨rfl, hb⟩
      replace HS := HS.below hb
      refine ⟨_, rfl, ?_⟩
      clear hb
      refine as_ ?_
      refine WL.done ?_
      refine WQ.via (fun _ _ h_ => h_) hK28 ?_
      refine WC.seq (fun K36 hK36 => ?_)
      refine WC.seq (fun K37 hK37 => ?_)
      refine WC.region ?_
      refine mv_ ?_
      refine v_ (Run.bin rfl rfl rfl bin_lss) ?_
      refine WL.done ?_
      refine WQ.via (fun _ _ h_ => h_) hK37 ?_
      by_cases c38 : t33 < 0
      · rw [if_pos c38] at H
        refine WC.yes rfl (decide_eq_true c38) ?_
        refine WC.seq (fun K39 hK39 => ?_)
        refine WC.region ?_
        refine as_ ?_
        refine WL.done ?_
        refine WQ.via (fun _ _ h_ => h_) hK39 ?_
        refine WC.ret ?_
        obtain rfl := Option.some.inj H
        refine WQ.fin (e' := .ret) (fn := Try.f14) (fun _ _ h_ => h_) (WQ.ret1 rfl rfl ?_)
        exact hR_ _ _ ⟨rfl, HS.b⟩
      · rw [if_neg c38] at H
        refine WC.no rfl (decide_eq_false c38) ?_
        refine WC.skip ?_
        refine WQ.via (fun _ _ h_ => h_) hK36 ?_
        refine WC.seq (fun K40 hK40 => ?_)
        refine WC.region ?_
        refine v_ (Run.fieldAddr rfl rfl Try.underlying31 rfl (by kernel_rfl) rfl) ?_
        obtain ⟨A41, c42, hc43, le44⟩ := (at31_6 (AtK.whole (HS.getO 3 rfl))).slice
        replace HS := HS.deriveO (p := (fun W => (Kd.int .i64).C W A41 x0.f6.length x0.f6)) (fun W_ hO_ hN_ => (at31_6 (AtK.whole (AllF.get 3 rfl hO_))).C hc43)
        refine v_ (Run.load rfl rfl Try.underlying25 rfl (box_cell (HS.mu 0 rfl) hc43)) ?_
        refine mv_ ?_
        obtain ⟨t45, ha46, H⟩ := bind_some H
        refine c_ Try.func46 (laws_szIntS.calls A41 c42 x0.f6 t33 t45 _ (HS.getO 0 rfl) le44 ha46) ?_
        rintro _ w47 ⟨rfl, hb⟩
        have hb := hb.below
        replace HS := HS.below hb
        refine ⟨_, rfl, ?_⟩
        clear hb
        refine as_ ?_
        refine WL.done ?_
        refine WQ.via (fun _ _ h_ => h_) hK40 ?_
        refine WC.seq (fun K48 hK48 => ?_)
        refine WC.seq (fun K49 hK49 => ?_)
        refine WC.region ?_
        refine mv_ ?_
        refine v_ (Run.bin rfl rfl rfl bin_lss) ?_
        refine WL.done ?_
        refine WQ.via (fun _ _ h_ => h_) hK49 ?_
        by_cases c50 : t45 < 0
        · rw [if_pos c50] at H
          refine WC.yes rfl (decide_eq_true c50) ?_
          refine WC.seq (fun K51 hK51 => ?_)
          refine WC.region ?_
          refine as_ ?_
          refine WL.done ?_
          refine WQ.via (fun _ _ h_ => h_) hK51 ?_
          refine WC.ret ?_
          obtain rfl := Option.some.inj H
          refine WQ.fin (e' := .ret) (fn := Try.f14) (fun _ _ h_ => h_) (WQ.ret1 rfl rfl ?_)
          exact hR_ _ _ ⟨rfl, HS.b⟩
        · rw [if_neg c50] at H
          refine WC.no rfl (decide_eq_false c50) ?_
          refine WC.skip ?_
          refine WQ.via (fun _ _ h_ => h_) hK48 ?_
          refine WC.seq (fun K52 hK52 => ?_)
          refine WC.region ?_
          refine v_ (Run.fieldAddr rfl rfl Try.underlying31 rfl (by kernel_rfl) rfl) ?_
          obtain ⟨A53, c54, hc55, le56⟩ := (at31_8 (AtK.whole (HS.getO 4 rfl))).slice
          replace HS := HS.deriveO (p := (fun W => (Kd.slice 3 (Kd.int .i64)).C W A53 x0.f7.f1.length x0.f7.f1)) (fun W_ hO_ hN_ => (at31_8 (AtK.whole (AllF.get 4 rfl hO_))).C hc55)
          obtain ⟨A57, c58, hc59, le60⟩ := (at31_9 (AtK.whole (HS.getO 5 rfl))).slice
          replace HS := HS.deriveO (p := (fun W => (Kd.slice 3 (Kd.int .i64)).C W A57 x0.f7.f2.length x0.f7.f2)) (fun W_ hO_ hN_ => (at31_9 (AtK.whole (AllF.get 5 rfl hO_))).C hc59)
          refine v_ (Run.loadS (cs := [.int .i64 x0.f7.f0, .slice A53 x0.f7.f1.length c54, .slice A57 x0.f7.f2.length c58, .int .i64 x0.f7.f3, .int .i64 x0.f7.f4]) rfl rfl Try.underlying27 rfl (by kernel_rfl) (box_part (HS.mu 0 rfl) (part_cons (at31_7 (AtK.whole (HS.getO 6 rfl))).int (part_cons hc55 (part_cons hc59 (part_cons (at31_10 (AtK.whole (HS.getO 6 rfl))).int (part_cons (at31_11 (AtK.whole (HS.getO 6 rfl))).int part_nil))))))) ?_
          refine mv_ ?_
          obtain ⟨t61, ha62, H⟩ := bind_some H
          refine c_ Try.func47 (laws_szMatrix.calls k x0.f7.f0 A53 c54 x0.f7.f1 A57 c58 x0.f7.f2 x0.f7.f3 x0.f7.f4 t45 t61 _ (HS.getO 1 rfl) le56 (HS.getO 0 rfl) le60 ha62) ?_
          rintro _ w63 ⟨rfl, hb⟩
          replace HS := HS.below hb
          refine ⟨_, rfl, ?_⟩
          clear hb
          refine as_ ?_
          refine WL.done ?_
          refine WQ.via (fun _ _ h_ => h_) hK52 ?_
          refine WC.seq (fun K64 hK64 => ?_)
          refine WC.seq (fun K65 hK65 => ?_)
          refine WC.region ?_
          refine mv_ ?_
          refine v_ (Run.bin rfl rfl rfl bin_lss) ?_
          refine WL.done ?_
          refine WQ.via (fun _ _ h_ => h_) hK65 ?_
          by_cases c66 : t61 < 0
          · rw [if_pos c66] at H
            refine WC.yes rfl (decide_eq_true c66) ?_
            refine WC.seq (fun K67 hK67 => ?_)
            refine WC.region ?_
            refine as_ ?_
            refine WL.done ?_
            refine WQ.via (fun _ _ h_ => h_) hK67 ?_
            refine WC.ret ?_
            obtain rfl := Option.some.inj H
            refine WQ.fin (e' := .ret) (fn := Try.f14) (fun _ _ h_ => h_) (WQ.ret1 rfl rfl ?_)
            exact hR_ _ _ ⟨rfl, HS.b⟩
          · rw [if_neg c66] at H
            refine WC.no rfl (decide_eq_false c66) ?_
            refine WC.skip ?_
            refine WQ.via (fun _ _ h_ => h_) hK64 ?_
            refine WC.seq (fun K68 hK68 => ?_)
            refine WC.region ?_
            refine v_ (Run.fieldAddr rfl rfl Try.underlying31 rfl (by kernel_rfl) rfl) ?_
            obtain ⟨A69, c70, hc71, le72⟩ := (at31_12 (AtK.whole (HS.getO 6 rfl))).slice
            replace HS := HS.deriveO (p := (fun W => (Kd.slice 3 (Kd.int .i64)).C W A69 x0.f8.f0.length x0.f8.f0)) (fun W_ hO_ hN_ => (at31_12 (AtK.whole (AllF.get 6 rfl hO_))).C hc71)
            obtain ⟨A73, c74, hc75, le76⟩ := (at31_13 (AtK.whole (HS.getO 7 rfl))).slice
            replace HS := HS.deriveO (p := (fun W => (Kd.slice 3 (Kd.int .i64)).C W A73 x0.f8.f1.length x0.f8.f1)) (fun W_ hO_ hN_ => (at31_13 (AtK.whole (AllF.get 7 rfl hO_))).C hc75)
            refine v_ (Run.loadS (cs := [.slice A69 x0.f8.f0.length c70, .slice A73 x0.f8.f1.length c74]) rfl rfl Try.underlying29 rfl (by kernel_rfl) (box_part (HS.mu 0 rfl) (part_cons hc71 (part_cons hc75 part_nil)))) ?_
            refine mv_ ?_
            obtain ⟨t77, ha78, H⟩ := bind_some H
            refine c_ Try.func48 (laws_szTurns.calls k A69 c70 x0.f8.f0 A73 c74 x0.f8.f1 t61 t77 _ (HS.getO 1 rfl) le72 (HS.getO 0 rfl) le76 ha78) ?_
            rintro _ w79 ⟨rfl, hb⟩
            replace HS := HS.below hb
            refine ⟨_, rfl, ?_⟩
            clear hb
            refine as_ ?_
            refine WL.done ?_
            refine WQ.via (fun _ _ h_ => h_) hK68 ?_
            refine WC.seq (fun K80 hK80 => ?_)
            refine WC.seq (fun K81 hK81 => ?_)
            refine WC.region ?_
            refine mv_ ?_
            refine v_ (Run.bin rfl rfl rfl bin_lss) ?_
            refine WL.done ?_
            refine WQ.via (fun _ _ h_ => h_) hK81 ?_
            by_cases c82 : t77 < 0
            · rw [if_pos c82] at H
              refine WC.yes rfl (decide_eq_true c82) ?_
              refine WC.seq (fun K83 hK83 => ?_)
              refine WC.region ?_
              refine as_ ?_
              refine WL.done ?_
              refine WQ.via (fun _ _ h_ => h_) hK83 ?_
              refine WC.ret ?_
              obtain rfl := Option.some.inj H
              refine WQ.fin (e' := .ret) (fn := Try.f14) (fun _ _ h_ => h_) (WQ.ret1 rfl rfl ?_)
              exact hR_ _ _ ⟨rfl, HS.b⟩
            · rw [if_neg c82] at H
              refine WC.no rfl (decide_eq_false c82) ?_
              refine WC.skip ?_
              refine WQ.via (fun _ _ h_ => h_) hK80 ?_
              refine WC.seq (fun K84 hK84 => ?_)
              refine WC.region ?_
              refine mv_ ?_
              refine as_ ?_
              refine WL.done ?_
              refine WQ.via (fun _ _ h_ => h_) hK84 ?_
              refine WC.ret ?_
              obtain rfl := Option.some.inj H
              refine WQ.fin (e' := .ret) (fn := Try.f14) (fun _ _ h_ => h_) (WQ.ret1 rfl rfl ?_)
              exact hR_ _ _ ⟨rfl, HS.b⟩
def laws_toLayer.g (k : Nat) (x0 : S44) : Option S48 := ((laws_toIntS.f k x0.f0).bind fun t14 => ((laws_toMatrix.f k x0.f1.f0 x0.f1.f1 x0.f1.f2 x0.f1.f3 x0.f1.f4).bind fun t33 => ((laws_toMatrix.f k x0.f2.f0 x0.f2.f1 x0.f2.f2 x0.f2.f3 x0.f2.f4).bind fun t58 => ((laws_toMatrix.f k x0.f3.f0 x0.f3.f1 x0.f3.f2 x0.f3.f3 x0.f3.f4).bind fun t83 => ((laws_toMatrix.f k x0.f4.f0 x0.f4.f1 x0.f4.f2 x0.f4.f3 x0.f4.f4).bind fun t108 => ((laws_toIntS.f k x0.f5).bind fun t129 => ((laws_toMatrix.f k x0.f6.f0 x0.f6.f1 x0.f6.f2 x0.f6.f3 x0.f6.f4).bind fun t148 => ((laws_toMatrix.f k x0.f7.f0 x0.f7.f1 x0.f7.f2 x0.f7.f3 x0.f7.f4).bind fun t173 => (some (⟨t14, (⟨t33.1, t33.2.1, t33.2.2.1, t33.2.2.2.1, t33.2.2.2.2⟩ : S36), (⟨t58.1, t58.2.1, t58.2.2.1, t58.2.2.2.1, t58.2.2.2.2⟩ : S36), (⟨t83.1, t83.2.1, t83.2.2.1, t83.2.2.2.1, t83.2.2.2.2⟩ : S36), (⟨t108.1, t108.2.1, t108.2.2.1, t108.2.2.2.1, t108.2.2.2.2⟩ : S36), t129, (⟨t148.1, t148.2.1, t148.2.2.1, t148.2.2.2.1, t148.2.2.2.2⟩ : S36), (⟨t173.1, t173.2.1, t173.2.2.1, t173.2.2.2.1, t173.2.2.2.2⟩ : S36)⟩ : S48))))))))))
set_option maxHeartbeats 4000000 in
set_option maxRecDepth 20000 in
theorem laws_toLayer.runs (k : Nat) (cs0 : List Value) (x0 : S44) (r : S48) (w : World) (hk0 : k44.K w x0 cs0) (H : laws_toLayer.g k x0 = some r) :
    Calls Try.prog 21 #[.agg cs0.toArray] w fun e w' => ∃ (cs0_ : List Value), e = .returned (.agg cs0_.toArray) ∧ Foot (fun W => k48.K W r cs0_) w' (fun k_ => w.heap.size ≤ k_) ∧ Below w.heap.size w w' := by
  have el0 : cs0.length = 32 := k44.K_len hk0
  unfold laws_toLayer.g at H
  have HS : St (fun _ => True) w w [] [(fun W => k44.K W x0 cs0)] [] := St.start (foot_cons (foot_K h44 hk0) foot_nil)
  refine calls_W Try.func21 rfl rfl (Nat.le_of_ble_eq_true rfl) (fun R_ hR_ => ?_)
  refine WC.seq (fun K1 hK1 => ?_)
  refine WC.region ?_
  refine WL.box HS rfl rfl (by decide) rfl rfl rfl (fun b2 w3 hb2 HS => ?_)
  refine WL.alloc HS (v := .agg #[.slice none 0 0, .int .i64 0, .slice none 0 0, .slice none 0 0, .int .i64 0, .int .i64 0, .int .i64 0, .slice none 0 0, .slice none 0 0, .int .i64 0, .int .i64 0, .int .i64 0, .slice none 0 0, .slice none 0 0, .int .i64 0, .int .i64 0, .int .i64 0, .slice none 0 0, .slice none 0 0, .int .i64 0, .int .i64 0, .slice none 0 0, .int .i64 0, .slice none 0 0, .slice none 0 0, .int .i64 0, .int .i64 0, .int .i64 0, .slice none 0 0, .slice none 0 0, .int .i64 0, .int .i64 0]) (cs := #[.slice none 0 0, .int .i64 0, .slice none 0 0, .slice none 0 0, .int .i64 0, .int .i64 0, .int .i64 0, .slice none 0 0, .slice none 0 0, .int .i64 0, .int .i64 0, .int .i64 0, .slice none 0 0, .slice none 0 0, .int .i64 0, .int .i64 0, .int .i64 0, .slice none 0 0, .slice none 0 0, .int .i64 0, .int .i64 0, .slice none 0 0, .int .i64 0, .slice none 0 0, .slice none 0 0, .int .i64 0, .int .i64 0, .int .i64 0, .slice none 0 0, .slice none 0 0, .int .i64 0, .int .i64 0]) rfl rfl (by decide) rfl (by kernel_rfl) rfl (fun b4 w5 hb4 HS => ?_)
  refine WL.done ?_
  refine WQ.via (fun _ _ h_ => h_) hK1 ?_
  refine WC.seq (fun K6 hK6 => ?_)
  refine WC.region ?_
  refine WL.alloc HS (v := .agg #[.slice none 0 0, .int .i64 0, .slice none 0 0, .slice none 0 0, .int .i64 0, .int .i64 0, .int .i64 0, .slice none 0 0, .slice none 0 0, .int .i64 0, .int .i64 0, .int .i64 0, .slice none 0 0, .slice none 0 0, .int .i64 0, .int .i64 0, .int .i64 0, .slice none 0 0, .slice none 0 0, .int .i64 0, .int .i64 0, .slice none 0 0, .int .i64 0, .slice none 0 0, .slice none 0 0, .int .i64 0, .int .i64 0, .int .i64 0, .slice none 0 0, .slice none 0 0, .int .i64 0, .int .i64 0]) (cs := #[.slice none 0 0, .int .i64 0, .slice none 0 0, .slice none 0 0, .int .i64 0, .int .i64 0, .int .i64 0, .slice none 0 0, .slice none 0 0, .int .i64 0, .int .i64 0, .int .i64 0, .slice none 0 0, .slice none 0 0, .int .i64 0, .int .i64 0, .int .i64 0, .slice none 0 0, .slice none 0 0, .int .i64 0, .int .i64 0, .slice none 0 0, .int .i64 0, .slice none 0 0, .slice none 0 0, .int .i64 0, .int .i64 0, .int .i64 0, .slice none 0 0, .slice none 0 0, .int .i64 0, .int .i64 0]) rfl rfl (by decide) rfl (by kernel_rfl) rfl (fun b7 w8 hb7 HS => ?_)
  refine WL.done ?_
  refine WQ.via (fun _ _ h_ => h_) hK6 ?_
  refine WC.seq (fun K9 hK9 => ?_)
  refine WC.region ?_
  refine v_ (Run.fieldAddr rfl rfl Try.underlying44 rfl (by kernel_rfl) rfl) ?_
  obtain ⟨A10, c11, hc12, le13⟩ := (at44_0 (AtK.whole (HS.getO 0 rfl))).slice
  replace HS := HS.deriveO (p := (fun W => (Kd.int .i64).C W A10 x0.f0.length x0.f0)) (fun W_ hO_ hN_ => (at44_0 (AtK.whole (AllF.get 0 rfl hO_))).C hc12)
  refine v_ (Run.load rfl rfl Try.underlying25 rfl (box_cell (HS.mu 2 rfl) hc12)) ?_
  obtain ⟨t14, ha15, H⟩ := bind_some H
  refine c_ Try.func52 (laws_toIntS.calls k A10 c11 x0.f0 t14 _ (HS.getO 0 rfl) le13 ha15) ?_
  rintro _ w16 ⟨v17, rfl, h18, hb⟩
  obtain ⟨A19, c20, rfl, le21, hf22⟩ := res_R h18
  replace HS := HS.newNs hb (ps := [(fun W => (Kd.int .i64).C W A19 t14.length t14)]) (foot_cons hf22 foot_nil)
  refine ⟨_, rfl, ?_⟩
  clear hb
  refine v_ (Run.fieldAddr rfl rfl Try.underlying48 rfl (by kernel_rfl) rfl) ?_
  refine WL.store HS 0 rfl rfl rfl rfl rfl rfl rfl (by kernel_rfl) (Nat.le_of_ble_eq_true rfl) (cs' := #[.slice A19 t14.length c20, .int .i64 0, .slice none 0 0, .slice none 0 0, .int .i64 0, .int .i64 0, .int .i64 0, .slice none 0 0, .slice none 0 0, .int .i64 0, .int .i64 0, .int .i64 0, .slice none 0 0, .slice none 0 0, .int .i64 0, .int .i64 0, .int .i64 0, .slice none 0 0, .slice none 0 0, .int .i64 0, .int .i64 0, .slice none 0 0, .int .i64 0, .slice none 0 0, .slice none 0 0, .int .i64 0, .int .i64 0, .int .i64 0, .slice none 0 0, .slice none 0 0, .int .i64 0, .int .i64 0]) (by kernel_rfl) (fun w23 HS => ?_)
  refine WL.done ?_
  refine WQ.via (fun _ _ h_ => h_) hK9 ?_
  refine WC.seq (fun K24 hK24 => ?_)
  refine WC.region ?_
  refine v_ (Run.fieldAddr rfl rfl Try.underlying44 rfl (by kernel_rfl) rfl) ?_
  obtain ⟨A25, c26, hc27, le28⟩ := (at44_2 (AtK.whole (HS.getO 1 rfl))).slice
  replace HS := HS.deriveO (p := (fun W => (Kd.slice 3 (Kd.int .i64)).C W A25 x0.f1.f1.length x0.f1.f1)) (fun W_ hO_ hN_ => (at44_2 (AtK.whole (AllF.get 1 rfl hO_))).C hc27)
  obtain ⟨A29, c30, hc31, le32⟩ := (at44_3 (AtK.whole (HS.getO 2 rfl))).slice
  replace HS := HS.deriveO (p := (fun W => (Kd.slice 3 (Kd.int .i64)).C W A29 x0.f1.f2.length x0.f1.f2)) (fun W_ hO_ hN_ => (at44_3 (AtK.whole (AllF.get 2 rfl hO_))).C hc31)
  refine v_ (Run.loadS (cs := [.int .i64 x0.f1.f0, .slice A25 x0.f1.f1.length c26, .slice A29 x0.f1.f2.length c30, .int .i64 x0.f1.f3, .int .i64 x0.f1.f4]) rfl rfl Try.underlying27 rfl (by kernel_rfl) (box_part (HS.mu 2 rfl) (part_cons (at44_1 (AtK.whole (HS.getO 3 rfl))).int (part_cons hc27 (part_cons hc31 (part_cons (at44_4 (AtK.whole (HS.getO 3 rfl))).int (part_cons (at44_5 (AtK.whole (HS.getO 3 rfl))).int part_nil))))))) ?_
  obtain ⟨t33, ha34, H⟩ := bind_some H
  refine c_ Try.func53 (laws_toMatrix.calls k x0.f1.f0 A25 c26 x0.f1.f1 A29 c30 x0.f1.f2 x0.f1.f3 x0.f1.f4 t33.1 t33.2.1 t33.2.2.1 t33.2.2.2.1 t33.2.2.2.2 _ (HS.getO 1 rfl) le28 (HS.getO 0 rfl) le32 ha34) ?_
  rintro _ w35 ⟨v36, v42, rfl, h37, h43, hb⟩
  obtain ⟨A38, c39, rfl, le40, hf41⟩ := res_S h37
  obtain ⟨A44, c45, rfl, le46, hf47⟩ := res_S h43
  replace HS := HS.newNs hb (ps := [(fun W => (Kd.slice 3 (Kd.int .i64)).C W A38 t33.2.1.length t33.2.1), (fun W => (Kd.slice 3 (Kd.int .i64)).C W A44 t33.2.2.1.length t33.2.2.1)]) (foot_cons hf41 (foot_cons hf47 foot_nil))
  refine ⟨_, rfl, ?_⟩
  clear hb
  refine v_ (Run.fieldAddr rfl rfl Try.underlying48 rfl (by kernel_rfl) rfl) ?_
  refine WL.storeS HS 0 (vs := [.int .i64 t33.1, .slice A38 t33.2.1.length c39, .slice A44 t33.2.2.1.length c45, .int .i64 t33.2.2.2.1, .int .i64 t33.2.2.2.2]) rfl rfl rfl rfl rfl rfl (one_cons rfl (one_cons rfl (one_cons rfl (one_cons rfl (one_cons rfl one_nil))))) (by kernel_rfl) (Nat.le_of_ble_eq_true rfl) (cs' := #[.slice A19 t14.length c20, .int .i64 t33.1, .slice A38 t33.2.1.length c39, .slice A44 t33.2.2.1.length c45, .int .i64 t33.2.2.2.1, .int .i64 t33.2.2.2.2, .int .i64 0, .slice none 0 0, .slice none 0 0, .int .i64 0, .int .i64 0, .int .i64 0, .slice none 0 0, .slice none 0 0, .int .i64 0, .int .i64 0, .int .i64 0, .slice none 0 0, .slice none 0 0, .int .i64 0, .int .i64 0, .slice none 0 0, .int .i64 0, .slice none 0 0, .slice none 0 0, .int .i64 0, .int .i64 0, .int .i64 0, .slice none 0 0, .slice none 0 0, .int .i64 0, .int .i64 0]) (by kernel_rfl) (fun w48 HS => ?_)
  refine WL.done ?_
  refine WQ.via (fun _ _ h_ => h_) hK24 ?_
  refine WC.seq (fun K49 hK49 => ?_)
  refine WC.region ?_
  refine v_ (Run.fieldAddr rfl rfl Try.underlying44 rfl (by kernel_rfl) rfl) ?_
  obtain ⟨A50, c51, hc52, le53⟩ := (at44_7 (AtK.whole (HS.getO 3 rfl))).slice
  replace HS := HS.deriveO (p := (fun W => (Kd.slice 3 (Kd.int .i64)).C W A50 x0.f2.f1.length x0.f2.f1)) (fun W_ hO_ hN_ => (at44_7 (AtK.whole (AllF.get 3 rfl hO_))).C hc52)
  obtain ⟨A54, c55, hc56, le57⟩ := (at44_8 (AtK.whole (HS.getO 4 rfl))).slice
  replace HS := HS.deriveO (p := (fun W => (Kd.slice 3 (Kd.int .i64)).C W A54 x0.f2.f2.length x0.f2.f2)) (fun W_ hO_ hN_ => (at44_8 (AtK.whole (AllF.get 4 rfl hO_))).C hc56)
  refine v_ (Run.loadS (cs := [.int .i64 x0.f2.f0, .slice A50 x0.f2.f1.length c51, .slice A54 x0.f2.f2.length c55, .int .i64 x0.f2.f3, .int .i64 x0.f2.f4]) rfl rfl Try.underlying27 rfl (by kernel_rfl) (box_part (HS.mu 2 rfl) (part_cons (at44_6 (AtK.whole (HS.getO 5 rfl))).int (part_cons hc52 (part_cons hc56 (part_cons (at44_9 (AtK.whole (HS.getO 5 rfl))).int (part_cons (at44_10 (AtK.whole (HS.getO 5 rfl))).int part_nil))))))) ?_
  obtain ⟨t58, ha59, H⟩ := bind_some H
  refine c_ Try.func53 (laws_toMatrix.calls k x0.f2.f0 A50 c51 x0.f2.f1 A54 c55 x0.f2.f2 x0.f2.f3 x0.f2.f4 t58.1 t58.2.1 t58.2.2.1 t58.2.2.2.1 t58.2.2.2.2 _ (HS.getO 1 rfl) le53 (HS.getO 0 rfl) le57 ha59) ?_
  rintro _ w60 ⟨v61, v67, rfl, h62, h68, hb⟩
  obtain ⟨A63, c64, rfl, le65, hf66⟩ := res_S h62
  obtain ⟨A69, c70, rfl, le71, hf72⟩ := res_S h68
  replace HS := HS.newNs hb (ps := [(fun W => (Kd.slice 3 (Kd.int .i64)).C W A63 t58.2.1.length t58.2.1), (fun W => (Kd.slice 3 (Kd.int .i64)).C W A69 t58.2.2.1.length t58.2.2.1)]) (foot_cons hf66 (foot_cons hf72 foot_nil))
  refine ⟨_, rfl, ?_⟩
  clear hb
  refine v_ (Run.fieldAddr rfl rfl Try.underlying48 rfl (by kernel_rfl) rfl) ?_
  refine WL.storeS HS 0 (vs := [.int .i64 t58.1, .slice A63 t58.2.1.length c64, .slice A69 t58.2.2.1.length c70, .int .i64 t58.2.2.2.1, .int .i64 t58.2.2.2.2]) rfl rfl rfl rfl rfl rfl (one_cons rfl (one_cons rfl (one_cons rfl (one_cons rfl (one_cons rfl one_nil))))) (by kernel_rfl) (Nat.le_of_ble_eq_true rfl) (cs' := #[.slice A19 t14.length c20, .int .i64 t33.1, .slice A38 t33.2.1.length c39, .slice A44 t33.2.2.1.length c45, .int .i64 t33.2.2.2.1, .int .i64 t33.2.2.2.2, .int .i64 t58.1, .slice A63 t58.2.1.length c64, .slice A69 t58.2.2.1.length c70, .int .i64 t58.2.2.2.1, .int .i64 t58.2.2.2.2, .int .i64 0, .slice none 0 0, .slice none 0 0, .int .i64 0, .int .i64 0, .int .i64 0, .slice none 0 0, .slice none 0 0, .int .i64 0, .int .i64 0, .slice none 0 0, .int .i64 0, .slice none 0 0, .slice none 0 0, .int .i64 0, .int .i64 0, .int .i64 0, .slice none 0 0, .slice none 0 0, .int .i64 0, .int .i64 0]) (by kernel_rfl) (fun w73 HS => ?_)
  refine WL.done ?_
  refine WQ.via (fun _ _ h_ => h_) hK49 ?_
  refine WC.seq (fun K74 hK74 => ?_)
  refine WC.region ?_
  refine v_ (Run.fieldAddr rfl rfl Try.underlying44 rfl (by kernel_rfl) rfl) ?_
  obtain ⟨A75, c76, hc77, le78⟩ := (at44_12 (AtK.whole (HS.getO 5 rfl))).slice
  replace HS := HS.deriveO (p := (fun W => (Kd.slice 3 (Kd.int .i64)).C W A75 x0.f3.f1.length x0.f3.f1)) (fun W_ hO_ hN_ => (at44_12 (AtK.whole (AllF.get 5 rfl hO_))).C hc77)
  obtain ⟨A79, c80, hc81, le82⟩ := (at44_13 (AtK.whole (HS.getO 6 rfl))).slice
  replace HS := HS.deriveO (p := (fun W => (Kd.slice 3 (Kd.int .i64)).C W A79 x0.f3.f2.length x0.f3.f2)) (fun W_ hO_ hN_ => (at44_13 (AtK.whole (AllF.get 6 rfl hO_))).C hc81)
  refine v_ (Run.loadS (cs := [.int .i64 x0.f3.f0, .slice A75 x0.f3.f1.length c76, .slice A79 x0.f3.f2.length c80, .int .i64 x0.f3.f3, .int .i64 x0.f3.f4]) rfl rfl Try.underlying27 rfl (by kernel_rfl) (box_part (HS.mu 2 rfl) (part_cons (at44_11 (AtK.whole (HS.getO 7 rfl))).int (part_cons hc77 (part_cons hc81 (part_cons (at44_14 (AtK.whole (HS.getO 7 rfl))).int (part_cons (at44_15 (AtK.whole (HS.getO 7 rfl))).int part_nil))))))) ?_
  obtain ⟨t83, ha84, H⟩ := bind_some H
  refine c_ Try.func53 (laws_toMatrix.calls k x0.f3.f0 A75 c76 x0.f3.f1 A79 c80 x0.f3.f2 x0.f3.f3 x0.f3.f4 t83.1 t83.2.1 t83.2.2.1 t83.2.2.2.1 t83.2.2.2.2 _ (HS.getO 1 rfl) le78 (HS.getO 0 rfl) le82 ha84) ?_
  rintro _ w85 ⟨v86, v92, rfl, h87, h93, hb⟩
  obtain ⟨A88, c89, rfl, le90, hf91⟩ := res_S h87
  obtain ⟨A94, c95, rfl, le96, hf97⟩ := res_S h93
  replace HS := HS.newNs hb (ps := [(fun W => (Kd.slice 3 (Kd.int .i64)).C W A88 t83.2.1.length t83.2.1), (fun W => (Kd.slice 3 (Kd.int .i64)).C W A94 t83.2.2.1.length t83.2.2.1)]) (foot_cons hf91 (foot_cons hf97 foot_nil))
  refine ⟨_, rfl, ?_⟩
  clear hb
  refine v_ (Run.fieldAddr rfl rfl Try.underlying48 rfl (by kernel_rfl) rfl) ?_
  refine WL.storeS HS 0 (vs := [.int .i64 t83.1, .slice A88 t83.2.1.length c89, .slice A94 t83.2.2.1.length c95, .int .i64 t83.2.2.2.1, .int .i64 t83.2.2.2.2]) rfl rfl rfl rfl rfl rfl (one_cons rfl (one_cons rfl (one_cons rfl (one_cons rfl (one_cons rfl one_nil))))) (by kernel_rfl) (Nat.le_of_ble_eq_true rfl) (cs' := #[.slice A19 t14.length c20, .int .i64 t33.1, .slice A38 t33.2.1.length c39, .slice A44 t33.2.2.1.length c45, .int .i64 t33.2.2.2.1, .int .i64 t33.2.2.2.2, .int .i64 t58.1, .slice A63 t58.2.1.length c64, .slice A69 t58.2.2.1.length c70, .int .i64 t58.2.2.2.1, .int .i64 t58.2.2.2.2, .int .i64 t83.1, .slice A88 t83.2.1.length c89, .slice A94 t83.2.2.1.length c95, .int .i64 t83.2.2.2.1, .int .i64 t83.2.2.2.2, .int .i64 0, .slice none 0 0, .slice none 0 0, .int .i64 0, .int .i64 0, .slice none 0 0, .int .i64 0, .slice none 0 0, .slice none 0 0, .int .i64 0, .int .i64 0, .int .i64 0, .slice none 0 0, .slice none 0 0, .int .i64 0, .int .i64 0]) (by kernel_rfl) (fun w98 HS => ?_)
  refine WL.done ?_
  refine WQ.via (fun _ _ h_ => h_) hK74 ?_
  refine WC.seq (fun K99 hK99 => ?_)
  refine WC.region ?_
  refine v_ (Run.fieldAddr rfl rfl Try.underlying44 rfl (by kernel_rfl) rfl) ?_
  obtain ⟨A100, c101, hc102, le103⟩ := (at44_17 (AtK.whole (HS.getO 7 rfl))).slice
  replace HS := HS.deriveO (p := (fun W => (Kd.slice 3 (Kd.int .i64)).C W A100 x0.f4.f1.length x0.f4.f1)) (fun W_ hO_ hN_ => (at44_17 (AtK.whole (AllF.get 7 rfl hO_))).C hc102)
  obtain ⟨A104, c105, hc106, le107⟩ := (at44_18 (AtK.whole (HS.getO 8 rfl))).slice
  replace HS := HS.deriveO (p := (fun W => (Kd.slice 3 (Kd.int .i64)).C W A104 x0.f4.f2.length x0.f4.f2)) (fun W_ hO_ hN_ => (at44_18 (AtK.whole (AllF.get 8 rfl hO_))).C hc106)
  refine v_ (Run.loadS (cs := [.int .i64 x0.f4.f0, .slice A100 x0.f4.f1.length c101, .slice A104 x0.f4.f2.length c105, .int .i64 x0.f4.f3, .int .i64 x0.f4.f4]) rfl rfl Try.underlying27 rfl (by kernel_rfl) (box_part (HS.mu 2 rfl) (part_cons (at44_16 (AtK.whole (HS.getO 9 rfl))).int (part_cons hc102 (part_cons hc106 (part_cons (at44_19 (AtK.whole (HS.getO 9 rfl))).int (part_cons (at44_20 (AtK.whole (HS.getO 9 rfl))).int part_nil))))))) ?_
  obtain ⟨t108, ha109, H⟩ := bind_some H
  refine c_ Try.func53 (laws_toMatrix.calls k x0.f4.f0 A100 c101 x0.f4.f1 A104 c105 x0.f4.f2 x0.f4.f3 x0.f4.f4 t108.1 t108.2.1 t108.2.2.1 t108.2.2.2.1 t108.2.2.2.2 _ (HS.getO 1 rfl) le103 (HS.getO 0 rfl) le107 ha109) ?_
  rintro _ w110 ⟨v111, v117, rfl, h112, h118, hb⟩
  obtain ⟨A113, c114, rfl, le115, hf116⟩ := res_S h112
  obtain ⟨A119, c120, rfl, le121, hf122⟩ := res_S h118
  replace HS := HS.newNs hb (ps := [(fun W => (Kd.slice 3 (Kd.int .i64)).C W A113 t108.2.1.length t108.2.1), (fun W => (Kd.slice 3 (Kd.int .i64)).C W A119 t108.2.2.1.length t108.2.2.1)]) (foot_cons hf116 (foot_cons hf122 foot_nil))
  refine ⟨_, rfl, ?_⟩
  clear hb
  refine v_ (Run.fieldAddr rfl rfl Try.underlying48 rfl (by kernel_rfl) rfl) ?_
  refine WL.storeS HS 0 (vs := [.int .i64 t108.1, .slice A113 t108.2.1.length c114, .slice A119 t108.2.2.1.length c120, .int .i64 t108.2.2.2.1, .int .i64 t108.2.2.2.2]) rfl rfl rfl rfl rfl rfl (one_cons rfl (one_cons rfl (one_cons rfl (one_cons rfl (one_cons rfl one_nil))))) (by kernel_rfl) (Nat.le_of_ble_eq_true rfl) (cs' := #[.slice A19 t14.length c20, .int .i64 t33.1, .slice A38 t33.2.1.length c39, .slice A44 t33.2.2.1.length c45, .int .i64 t33.2.2.2.1, .int .i64 t33.2.2.2.2, .int .i64 t58.1, .slice A63 t58.2.1.length c64, .slice A69 t58.2.2.1.length c70, .int .i64 t58.2.2.2.1, .int .i64 t58.2.2.2.2, .int .i64 t83.1, .slice A88 t83.2.1.length c89, .slice A94 t83.2.2.1.length c95, .int .i64 t83.2.2.2.1, .int .i64 t83.2.2.2.2, .int .i64 t108.1, .slice A113 t108.2.1.length c114, .slice A119 t108.2.2.1.length c120, .int .i64 t108.2.2.2.1, .int .i64 t108.2.2.2.2, .slice none 0 0, .int .i64 0, .slice none 0 0, .slice none 0 0, .int .i64 0, .int .i64 0, .int .i64 0, .slice none 0 0, .slice none 0 0, .int .i64 0, .int .i64 0]) (by kernel_rfl) (fun w123 HS => ?_)
  refine WL.done ?_
  refine WQ.via (fun _ _ h_ => h_) hK99 ?_
  refine WC.seq (fun K124 hK124 => ?_)
  refine WC.region ?_
  refine v_ (Run.fieldAddr rfl rfl Try.underlying44 rfl (by kernel_rfl) rfl) ?_
  obtain ⟨A125, c126, hc127, le128⟩ := (at44_21 (AtK.whole (HS.getO 9 rfl))).slice
  replace HS := HS.deriveO (p := (fun W => (Kd.int .i64).C W A125 x0.f5.length x0.f5)) (fun W_ hO_ hN_ => (at44_21 (AtK.whole (AllF.get 9 rfl hO_))).C hc127)
  refine v_ (Run.load rfl rfl Try.underlying25 rfl (box_cell (HS.mu 2 rfl) hc127)) ?_
  obtain ⟨t129, ha130, H⟩ := bind_some H
  refine c_ Try.func52 (laws_toIntS.calls k A125 c126 x0.f5 t129 _ (HS.getO 0 rfl) le128 ha130) ?_
  rintro _ w131 ⟨v132, rfl, h133, hb⟩
  obtain ⟨A134, c135, rfl, le136, hf137⟩ := res_R h133
  replace HS := HS.newNs hb (ps := [(fun W => (Kd.int .i64).C W A134 t129.length t129)]) (foot_cons hf137 foot_nil)
  refine ⟨_, rfl, ?_⟩
  clear hb
  refine v_ (Run.fieldAddr rfl rfl Try.underlying48 rfl (by kernel_rfl) rfl) ?_
  refine WL.store HS 0 rfl rfl rfl rfl rfl rfl rfl (by kernel_rfl) (Nat.le_of_ble_eq_true rfl) (cs' := #[.slice A19 t14.length c20, .int .i64 t33.1, .slice A38 t33.2.1.length c39, .slice A44 t33.2.2.1.length c45, .int .i64 t33.2.2.2.1, .int .i64 t33.2.2.2.2, .int .i64 t58.1, .slice A63 t58.2.1.length c64, .slice A69 t58.2.2.1.length c70, .int .i64 t58.2.2.2.1, .int .i64 t58.2.2.2.2, .int .i64 t83.1, .slice A88 t83.2.1.length c89, .slice A94 t83.2.2.1.length c95, .int .i64 t83.2.2.2.1, .int .i64 t83.2.2.2.2, .int .i64 t108.1, .slice A113 t108.2.1.length c114, .slice A119 t108.2.2.1.length c120, .int .i64 t108.2.2.2.1, .int .i64 t108.2.2.2.2, .slice A134 t129.length c135, .int .i64 0, .slice none 0 0, .slice none 0 0, .int .i64 0, .int .i64 0, .int .i64 0, .slice none 0 0, .slice none 0 0, .int .i64 0, .int .i64 0]) (by kernel_rfl) (fun w138 HS => ?_)
  refine WL.done ?_
  refine WQ.via (fun _ _ h_ => h_) hK124 ?_
  refine WC.seq (fun K139 hK139 => ?_)
  refine WC.region ?_
  refine v_ (Run.fieldAddr rfl rfl Try.underlying44 rfl (by kernel_rfl) rfl) ?_
  obtain ⟨A140, c141, hc142, le143⟩ := (at44_23 (AtK.whole (HS.getO 10 rfl))).slice
  replace HS := HS.deriveO (p := (fun W => (Kd.slice 3 (Kd.int .i64)).C W A140 x0.f6.f1.length x0.f6.f1)) (fun W_ hO_ hN_ => (at44_23 (AtK.whole (AllF.get 10 rfl hO_))).C hc142)
  obtain ⟨A144, c145, hc146, le147⟩ := (at44_24 (AtK.whole (HS.getO 11 rfl))).slice
  replace HS := HS.deriveO (p := (fun W => (Kd.slice 3 (Kd.int .i64)).C W A144 x0.f6.f2.length x0.f6.f2)) (fun W_ hO_ hN_ => (at44_24 (AtK.whole (AllF.get 11 rfl hO_))).C hc146)
  refine v_ (Run.loadS (cs := [.int .i64 x0.f6.f0, .slice A140 x0.f6.f1.length c141, .slice A144 x0.f6.f2.length c145, .int .i64 x0.f6.f3, .int .i64 x0.f6.f4]) rfl rfl Try.underlying27 rfl (by kernel_rfl) (box_part (HS.mu 2 rfl) (part_cons (at44_22 (AtK.whole (HS.getO 12 rfl))).int (part_cons hc142 (part_cons hc146 (part_cons (at44_25 (AtK.whole (HS.getO 12 rfl))).int (part_cons (at44_26 (AtK.whole (HS.getO 12 rfl))).int part_nil))))))) ?_
  obtain ⟨t148, ha149, H⟩ := bind_some H
  refine c_ Try.func53 (laws_toMatrix.calls k x0.f6.f0 A140 c141 x0.f6.f1 A144 c145 x0.f6.f2 x0.f6.f3 x0.f6.f4 t148.1 t148.2.1 t148.2.2.1 t148.2.2.2.1 t148.2.2.2.2 _ (HS.getO 1 rfl) le143 (HS.getO 0 rfl) le147 ha149) ?_
  rintro _ w150 ⟨v151, v157, rfl, h152, h158, hb⟩
  obtain ⟨A153, c154, rfl, le155, hf156⟩ := res_S h152
  obtain ⟨A159, c160, rfl, le161, hf162⟩ := res_S h158
  replace HS := HS.newNs hb (ps := [(fun W => (Kd.slice 3 (Kd.int .i64)).C W A153 t148.2.1.length t148.2.1), (fun W => (Kd.slice 3 (Kd.int .i64)).C W A159 t148.2.2.1.length t148.2.2.1)]) (foot_cons hf156 (foot_cons hf162 foot_nil))
  refine ⟨_, rfl, ?_⟩
  clear hb
  refine v_ (Run.fieldAddr rfl rfl Try.underlying48 rfl (by kernel_rfl) rfl) ?_
  refine WL.storeS HS 0 (vs := [.int .i64 t148.1, .slice A153 t148.2.1.length c154, .slice A159 t148.2.2.1.length c160, .int .i64 t148.2.2.2.1, .int .i64 t148.2.2.2.2]) rfl rfl rfl rfl rfl rfl (one_cons rfl (one_cons rfl (one_cons rfl (one_cons rfl (one_cons rfl one_nil))))) (by kernel_rfl) (Nat.le_of_ble_eq_true rfl) (cs' := #[.slice A19 t14.length c20, .int .i64 t33.1, .slice A38 t33.2.1.length c39, .slice A44 t33.2.2.1.length c45, .int .i64 t33.2.2.2.1, .int .i64 t33.2.2.2.2, .int .i64 t58.1, .slice A63 t58.2.1.length c64, .slice A69 t58.2.2.1.length c70, .int .i64 t58.2.2.2.1, .int .i64 t58.2.2.2.2, .int .i64 t83.1, .slice A88 t83.2.1.length c89, .slice A94 t83.2.2.1.length c95, .int .i64 t83.2.2.2.1, .int .i64 t83.2.2.2.2, .int .i64 t108.1, .slice A113 t108.2.1.length c114, .slice A119 t108.2.2.1.length c120, .int .i64 t108.2.2.2.1, .int .i64 t108.2.2.2.2, .slice A134 t129.length c135, .int .i64 t148.1, .slice A153 t148.2.1.length c154, .slice A159 t148.2.2.1.length c160, .int .i64 t148.2.2.2.1, .int .i64 t148.2.2.2.2, .int .i64 0, .slice none 0 0, .slice none 0 0, .int .i64 0, .int .i64 0]) (by kernel_rfl) (fun w163 HS => ?_)
  refine WL.done ?_
  refine WQ.via (fun _ _ h_ => h_) hK139 ?_
  refine WC.seq (fun K164 hK164 => ?_)
  refine WC.region ?_
  refine v_ (Run.fieldAddr rfl rfl Try.underlying44 rfl (by kernel_rfl) rfl) ?_
  obtain ⟨A165, c166, hc167, le168⟩ := (at44_28 (AtK.whole (HS.getO 12 rfl))).slice
  replace HS := HS.deriveO (p := (fun W => (Kd.slice 3 (Kd.int .i64)).C W A165 x0.f7.f1.length x0.f7.f1)) (fun W_ hO_ hN_ => (at44_28 (AtK.whole (AllF.get 12 rfl hO_))).C hc167)
  obtain ⟨A169, c170, hc171, le172⟩ := (at44_29 (AtK.whole (HS.getO 13 rfl))).slice
  replace HS := HS.deriveO (p := (fun W => (Kd.slice 3 (Kd.int .i64)).C W A169 x0.f7.f2.length x0.f7.f2)) (fun W_ hO_ hN_ => (at44_29 (AtK.whole (AllF.get 13 rfl hO_))).C hc171)
  refine v_ (Run.loadS (cs := [.int .i64 x0.f7.f0, .slice A165 x0.f7.f1.length c166, .slice A169 x0.f7.f2.length c170, .int .i64 x0.f7.f3, .int .i64 x0.f7.f4]) rfl rfl Try.underlying27 rfl (by kernel_rfl) (box_part (HS.mu 2 rfl) (part_cons (at44_27 (AtK.whole (HS.getO 14 rfl))).int (part_cons hc167 (part_cons hc171 (part_cons (at44_30 (AtK.whole (HS.getO 14 rfl))).int (part_cons (at44_31 (AtK.whole (HS.getO 14 rfl))).int part_nil))))))) ?_
  obtain ⟨t173, ha174, H⟩ := bind_some H
  refine c_ Try.func53 (laws_toMatrix.calls k x0.f7.f0 A165 c166 x0.f7.f1 A169 c170 x0.f7.f2 x0.f7.f3 x0.f7.f4 t173.1 t173.2.1 t173.2.2.1 t173.2.2.2.1 t173.2.2.2.2 _ (HS.getO 1 rfl) le168 (HS.getO 0 rfl) le172 ha174) ?_
  rintro _ w175 ⟨v176, v182, rfl, h177, h183, hb⟩
  obtain ⟨A178, c179, rfl, le180, hf181⟩ := res_S h177
  obtain ⟨A184, c185, rfl, le186, hf187⟩ := res_S h183
  replace HS := HS.newNs hb (ps := [(fun W => (Kd.slice 3 (Kd.int .i64)).C W A178 t173.2.1.length t173.2.1), (fun W => (Kd.slice 3 (Kd.int .i64)).C W A184 t173.2.2.1.length t173.2.2.1)]) (foot_cons hf181 (foot_cons hf187 foot_nil))
  refine ⟨_, rfl, ?_⟩
  clear hb
  refine v_ (Run.fieldAddr rfl rfl Try.underlying48 rfl (by kernel_rfl) rfl) ?_
  refine WL.storeS HS 0 (vs := [.int .i64 t173.1, .slice A178 t173.2.1.length c179, .slice A184 t173.2.2.1.length c185, .int .i64 t173.2.2.2.1, .int .i64 t173.2.2.2.2]) rfl rfl rfl rfl rfl rfl (one_cons rfl (one_cons rfl (one_cons rfl (one_cons rfl (one_cons rfl one_nil))))) (by kernel_rfl) (Nat.le_of_ble_eq_true rfl) (cs' := #[.slice A19 t14.length c20, .int .i64 t33.1, .slice A38 t33.2.1.length c39, .slice A44 t33.2.2.1.length c45, .int .i64 t33.2.2.2.1, .int .i64 t33.2.2.2.2, .int .i64 t58.1, .slice A63 t58.2.1.length c64, .slice A69 t58.2.2.1.length c70, .int .i64 t58.2.2.2.1, .int .i64 t58.2.2.2.2, .int .i64 t83.1, .slice A88 t83.2.1.length c89, .slice A94 t83.2.2.1.length c95, .int .i64 t83.2.2.2.1, .int .i64 t83.2.2.2.2, .int .i64 t108.1, .slice A113 t108.2.1.length c114, .slice A119 t108.2.2.1.length c120, .int .i64 t108.2.2.2.1, .int .i64 t108.2.2.2.2, .slice A134 t129.length c135, .int .i64 t148.1, .slice A153 t148.2.1.length c154, .slice A159 t148.2.2.1.length c160, .int .i64 t148.2.2.2.1, .int .i64 t148.2.2.2.2, .int .i64 t173.1, .slice A178 t173.2.1.length c179, .slice A184 t173.2.2.1.length c185, .int .i64 t173.2.2.2.1, .int .i64 t173.2.2.2.2]) (by kernel_rfl) (fun w188 HS => ?_)
  refine WL.done ?_
  refine WQ.via (fun _ _ h_ => h_) hK164 ?_
  refine WC.seq (fun K189 hK189 => ?_)
  refine WC.region ?_
  refine v_ (Run.loadS (cs := [.slice A19 t14.length c20, .int .i64 t33.1, .slice A38 t33.2.1.length c39, .slice A44 t33.2.2.1.length c45, .int .i64 t33.2.2.2.1, .int .i64 t33.2.2.2.2, .int .i64 t58.1, .slice A63 t58.2.1.length c64, .slice A69 t58.2.2.1.length c70, .int .i64 t58.2.2.2.1, .int .i64 t58.2.2.2.2, .int .i64 t83.1, .slice A88 t83.2.1.length c89, .slice A94 t83.2.2.1.length c95, .int .i64 t83.2.2.2.1, .int .i64 t83.2.2.2.2, .int .i64 t108.1, .slice A113 t108.2.1.length c114, .slice A119 t108.2.2.1.length c120, .int .i64 t108.2.2.2.1, .int .i64 t108.2.2.2.2, .slice A134 t129.length c135, .int .i64 t148.1, .slice A153 t148.2.1.length c154, .slice A159 t148.2.2.1.length c160, .int .i64 t148.2.2.2.1, .int .i64 t148.2.2.2.2, .int .i64 t173.1, .slice A178 t173.2.1.length c179, .slice A184 t173.2.2.1.length c185, .int .i64 t173.2.2.2.1, .int .i64 t173.2.2.2.2]) rfl rfl Try.underlying48 rfl (by kernel_rfl) (box_part (HS.mu 0 rfl) part_all)) ?_
  refine WL.storeS HS 1 (vs := [.slice A19 t14.length c20, .int .i64 t33.1, .slice A38 t33.2.1.length c39, .slice A44 t33.2.2.1.length c45, .int .i64 t33.2.2.2.1, .int .i64 t33.2.2.2.2, .int .i64 t58.1, .slice A63 t58.2.1.length c64, .slice A69 t58.2.2.1.length c70, .int .i64 t58.2.2.2.1, .int .i64 t58.2.2.2.2, .int .i64 t83.1, .slice A88 t83.2.1.length c89, .slice A94 t83.2.2.1.length c95, .int .i64 t83.2.2.2.1, .int .i64 t83.2.2.2.2, .int .i64 t108.1, .slice A113 t108.2.1.length c114, .slice A119 t108.2.2.1.length c120, .int .i64 t108.2.2.2.1, .int .i64 t108.2.2.2.2, .slice A134 t129.length c135, .int .i64 t148.1, .slice A153 t148.2.1.length c154, .slice A159 t148.2.2.1.length c160, .int .i64 t148.2.2.2.1, .int .i64 t148.2.2.2.2, .int .i64 t173.1, .slice A178 t173.2.1.length c179, .slice A184 t173.2.2.1.length c185, .int .i64 t173.2.2.2.1, .int .i64 t173.2.2.2.2]) rfl rfl rfl rfl rfl rfl (one_cons rfl (one_cons rfl (one_cons rfl (one_cons rfl (one_cons rfl (one_cons rfl (one_cons rfl (one_cons rfl (one_cons rfl (one_cons rfl (one_cons rfl (one_cons rfl (one_cons rfl (one_cons rfl (one_cons rfl (one_cons rfl (one_cons rfl (one_cons rfl (one_cons rfl (one_cons rfl (one_cons rfl (one_cons rfl (one_cons rfl (one_cons rfl (one_cons rfl (one_cons rfl (one_cons rfl (one_cons rfl (one_cons rfl (one_cons rfl (one_cons rfl (one_cons rfl one_nil)))))))))))))))))))))))))))))))) (by kernel_rfl) (Nat.le_of_ble_eq_true rfl) (cs' := #[.slice A19 t14.length c20, .int .i64 t33.1, .slice A38 t33.2.1.length c39, .slice A44 t33.2.2.1.length c45, .int .i64 t33.2.2.2.1, .int .i64 t33.2.2.2.2, .int .i64 t58.1, .slice A63 t58.2.1.length c64, .slice A69 t58.2.2.1.length c70, .int .i64 t58.2.2.2.1, .int .i64 t58.2.2.2.2, .int .i64 t83.1, .slice A88 t83.2.1.length c89, .slice A94 t83.2.2.1.length c95, .int .i64 t83.2.2.2.1, .int .i64 t83.2.2.2.2, .int .i64 t108.1, .slice A113 t108.2.1.length c114, .slice A119 t108.2.2.1.length c120, .int .i64 t108.2.2.2.1, .int .i64 t108.2.2.2.2, .slice A134 t129.length c135, .int .i64 t148.1, .slice A153 t148.2.1.length c154, .slice A159 t148.2.2.1.length c160, .int .i64 t148.2.2.2.1, .int .i64 t148.2.2.2.2, .int .i64 t173.1, .slice A178 t173.2.1.length c179, .slice A184 t173.2.2.1.length c185, .int .i64 t173.2.2.2.1, .int .i64 t173.2.2.2.2]) (by kernel_rfl) (fun w190 HS => ?_)
  refine WL.done ?_
  refine WQ.via (fun _ _ h_ => h_) hK189 ?_
  refine WC.ret ?_
  replace HS := HS.deriveN (p := (fun W => k48.K W (⟨t14, (⟨t33.1, t33.2.1, t33.2.2.1, t33.2.2.2.1, t33.2.2.2.2⟩ : S36), (⟨t58.1, t58.2.1, t58.2.2.1, t58.2.2.2.1, t58.2.2.2.2⟩ : S36), (⟨t83.1, t83.2.1, t83.2.2.1, t83.2.2.2.1, t83.2.2.2.2⟩ : S36), (⟨t108.1, t108.2.1, t108.2.2.1, t108.2.2.2.1, t108.2.2.2.2⟩ : S36), t129, (⟨t148.1, t148.2.1, t148.2.2.1, t148.2.2.2.1, t148.2.2.2.2⟩ : S36), (⟨t173.1, t173.2.1, t173.2.2.1, t173.2.2.2.1, t173.2.2.2.2⟩ : S36)⟩ : S48) [.slice A19 t14.length c20, .int .i64 t33.1, .slice A38 t33.2.1.length c39, .slice A44 t33.2.2.1.length c45, .int .i64 t33.2.2.2.1, .int .i64 t33.2.2.2.2, .int .i64 t58.1, .slice A63 t58.2.1.length c64, .slice A69 t58.2.2.1.length c70, .int .i64 t58.2.2.2.1, .int .i64 t58.2.2.2.2, .int .i64 t83.1, .slice A88 t83.2.1.length c89, .slice A94 t83.2.2.1.length c95, .int .i64 t83.2.2.2.1, .int .i64 t83.2.2.2.2, .int .i64 t108.1, .slice A113 t108.2.1.length c114, .slice A119 t108.2.2.1.length c120, .int .i64 t108.2.2.2.1, .int .i64 t108.2.2.2.2, .slice A134 t129.length c135, .int .i64 t148.1, .slice A153 t148.2.1.length c154, .slice A159 t148.2.2.1.length c160, .int .i64 t148.2.2.2.1, .int .i64 t148.2.2.2.2, .int .i64 t173.1, .slice A178 t173.2.1.length c179, .slice A184 t173.2.2.1.length c185, .int .i64 t173.2.2.2.1, .int .i64 t173.2.2.2.2])) (fun W_ hN_ => (k48_mk _ (⟨t14, (⟨t33.1, t33.2.1, t33.2.2.1, t33.2.2.2.1, t33.2.2.2.2⟩ : S36), (⟨t58.1, t58.2.1, t58.2.2.1, t58.2.2.2.1, t58.2.2.2.2⟩ : S36), (⟨t83.1, t83.2.1, t83.2.2.1, t83.2.2.2.1, t83.2.2.2.2⟩ : S36), (⟨t108.1, t108.2.1, t108.2.2.1, t108.2.2.2.1, t108.2.2.2.2⟩ : S36), t129, (⟨t148.1, t148.2.1, t148.2.2.1, t148.2.2.2.1, t148.2.2.2.2⟩ : S36), (⟨t173.1, t173.2.1, t173.2.2.1, t173.2.2.2.1, t173.2.2.2.2⟩ : S36)⟩ : S48) (le21) (AllF.get 13 rfl hN_) (le40) (AllF.get 11 rfl hN_) (le46) (AllF.get 12 rfl hN_) (le65) (AllF.get 9 rfl hN_) (le71) (AllF.get 10 rfl hN_) (le90) (AllF.get 7 rfl hN_) (le96) (AllF.get 8 rfl hN_) (le115) (AllF.get 5 rfl hN_) (le121) (AllF.get 6 rfl hN_) (le136) (AllF.get 4 rfl hN_) (le155) (AllF.get 2 rfl hN_) (le161) (AllF.get 3 rfl hN_) (le180) (AllF.get 0 rfl hN_) (le186) (AllF.get 1 rfl hN_)))
  obtain rfl := Option.some.inj H
  refine WQ.fin (e' := .ret) (fn := Try.f21) (fun _ _ h_ => h_) (WQ.ret1 rfl ⟨_, rfl, resv_box (HS.mu 1 rfl) Try.underlying48 rfl (by kernel_rfl)⟩ ?_)
  exact hR_ _ _ ⟨_, rfl, (foot_fresh (HS.footN 0 rfl)), HS.b⟩
def laws_toLayerS.b0 (l0 : List S44) (rec_ : Int → (List S48) → Option (Int × (List S48))) (k27 : Nat) (i15 : Int) (xs16 : List S48) : Option (Int × (List S48)) := (if i15 < (l0.length : Int) then (if 0 ≤ i15 ∧ i15 < (l0.length : Int) then ((laws_toLayer.g k27 (l0.getD i15.toNat o44)).bind fun t37 => (if 0 ≤ i15 ∧ i15 < ((xs16.length : Nat) : Int) then (rec_ (wrap64 (i15 + 1)) (xs16.set i15.toNat t37)) else none)) else none) else (some (i15, xs16)))
def laws_toLayerS.l0 (l0 : List S44) : Nat → Int → (List S48) → Option (Int × (List S48))
  | 0, _, _ => none
  | k + 1, i15, xs16 => laws_toLayerS.b0 l0 (laws_toLayerS.l0 l0 k) k i15 xs16
def laws_toLayerS.g (k : Nat) (l0 : List S44) : Option (List S48) := (if 0 ≤ (l0.length : Int) ∧ (l0.length : Int) < 4294967296 then ((laws_toLayerS.l0 l0 k 0 (List.replicate (l0.length : Int).toNat o48)).bind (fun o25 => (some o25.2))) else none)
set_option maxHeartbeats 4000000 in
set_option maxRecDepth 20000 in
theorem laws_toLayerS.runs (k : Nat) (A0 : Option Addr) (c0 : Nat) (l0 : List S44) (r : List S48) (w : World) (hr0 : k44.C w A0 l0.length l0) (hc0 : l0.length ≤ c0) (H : laws_toLayerS.g k l0 = some r) :
    Calls Try.prog 51 #[.slice A0 l0.length c0] w fun e w' => ∃ (A0_ : Option Addr) (c0_ : Nat), e = .returned (.slice A0_ r.length c0_) ∧ r.length ≤ c0_ ∧ Foot (fun W => k48.C W A0_ r.length r) w' (fun k_ => w.heap.size ≤ k_) ∧ Below w.heap.size w w' := by
  unfold laws_toLayerS.g at H
  have HS : St (fun _ => True) w w [] [(fun W => k44.C W A0 l0.length l0)] [] := St.start (foot_cons (foot_C h44 hr0) foot_nil)
  refine calls_W Try.func51 rfl rfl (Nat.le_of_ble_eq_true rfl) (fun R_ hR_ => ?_)
  refine WC.seq (fun K1 hK1 => ?_)
  refine WC.region ?_
  refine as_ ?_
  refine WL.done ?_
  refine WQ.via (fun _ _ h_ => h_) hK1 ?_
  refine WC.seq (fun K2 hK2 => ?_)
  refine WC.region ?_
  refine mv_ ?_
  refine v_ (Run.len (ts := #[]) rfl Try.underlying24 rfl) ?_
  obtain ⟨⟨q3, q4⟩, H⟩ := if_some H
  refine WL.make k48 HS rfl rfl (by decide) rfl rfl rfl (.agg #[.slice none 0 0, .int .i64 0, .slice none 0 0, .slice none 0 0, .int .i64 0, .int .i64 0, .int .i64 0, .slice none 0 0, .slice none 0 0, .int .i64 0, .int .i64 0, .int .i64 0, .slice none 0 0, .slice none 0 0, .int .i64 0, .int .i64 0, .int .i64 0, .slice none 0 0, .slice none 0 0, .int .i64 0, .int .i64 0, .slice none 0 0, .int .i64 0, .slice none 0 0, .slice none 0 0, .int .i64 0, .int .i64 0, .int .i64 0, .slice none 0 0, .slice none 0 0, .int .i64 0, .int .i64 0]) 480 o48 Try.underlying35 (by kernel_rfl) rfl (by decide) (by decide) (fun _ => (k48_mk _ o48 (Nat.le_refl _) (Kd.C_nil _ _) (Nat.le_refl _) (Kd.C_nil _ _) (Nat.le_refl _) (Kd.C_nil _ _) (Nat.le_refl _) (Kd.C_nil _ _) (Nat.le_refl _) (Kd.C_nil _ _) (Nat.le_refl _) (Kd.C_nil _ _) (Nat.le_refl _) (Kd.C_nil _ _) (Nat.le_refl _) (Kd.C_nil _ _) (Nat.le_refl _) (Kd.C_nil _ _) (Nat.le_refl _) (Kd.C_nil _ _) (Nat.le_refl _) (Kd.C_nil _ _) (Nat.le_refl _) (Kd.C_nil _ _) (Nat.le_refl _) (Kd.C_nil _ _) (Nat.le_refl _) (Kd.C_nil _ _))) q3 (by omega) (fun v5 w6 I7 hI8 HS => ?_)
  replace HS := HS.deriveN (p := (fun W => Reps (k48.K W) k48.sz (List.replicate (l0.length : Int).toNat o48) I7)) (fun W_ hN_ => hI8 W_)
  refine as_ ?_
  refine WL.done ?_
  refine WQ.via (fun _ _ h_ => h_) hK2 ?_
  refine WC.seq (fun K9 hK9 => ?_)
  refine WC.seq (fun K10 hK10 => ?_)
  refine WC.region ?_
  refine as_ ?_
  refine WL.done ?_
  refine WQ.via (fun _ _ h_ => h_) hK10 ?_
  refine WC.block ?_
  obtain ⟨G11, hG12, o13, H, Ho14⟩ := open_G H
  have X19 : ∀ E_ W_, (∃ (i15 : Int) (xs16 : List S48) (v17 : Value) (I18 : List Value), E_ = [(0, .slice A0 l0.length c0), (3, v17), (4, .int .i64 i15)] ∧ G11 (i15, xs16) = some r ∧ St (fun _ => True) w W_ [rowM w.heap.size 48 32 v17 xs16.length I18] [(fun W => k44.C W A0 l0.length l0)] [(fun W => Reps (k48.K W) k48.sz xs16 I18)]) → ∀ a, Fits a 23 E_ → K9 a W_ := by
    rintro E_ w20 ⟨i15, xs16, v17, I18, rfl, H, HS⟩
    rw [hG12] at H
    (try dsimp only at H)
    refine hK9 _ _ ?_
    refine WC.seq (fun K21 hK21 => ?_)
    refine WC.region ?_
    refine mv_ ?_
    refine as_ ?_
    refine WL.done ?_
    refine WQ.via (fun _ _ h_ => h_) hK21 ?_
    refine WC.ret ?_
    obtain ⟨A22, c23, rfl⟩ := row_slice (HS.mu 0 rfl)
    have le24 := row_le (HS.mu 0 rfl)
    replace HS := HS.freezeN 0 (p := (fun W => k48.C W A22 (xs16).length (xs16))) rfl (fun W_ hm_ h_ => row_C (by rfl) hm_ (AllF.get 0 rfl h_))
    obtain rfl := Option.some.inj H
    refine WQ.fin (e' := .ret) (fn := Try.f51) (fun _ _ h_ => h_) (WQ.ret1 rfl rfl ?_)
    exact hR_ _ _ ⟨_, _, rfl, le24, (foot_fresh (HS.footN 0 rfl)), HS.b⟩
  refine WC.loop (fun k_ E_ W_ => ∃ (i15 : Int) (xs16 : List S48) (v17 : Value) (I18 : List Value), E_ = [(0, .slice A0 l0.length c0), (3, v17), (4, .int .i64 i15)] ∧ (∃ o_, laws_toLayerS.l0 l0 k_ i15 xs16 = some o_ ∧ G11 o_ = some r) ∧ St (fun _ => True) w W_ [rowM w.heap.size 48 32 v17 xs16.length I18] [(fun W => k44.C W A0 l0.length l0)] [(fun W => Reps (k48.K W) k48.sz xs16 I18)]) k ⟨0, (List.replicate (l0.length : Int).toNat o48), v5, I7, rfl, ⟨_, H, Ho14⟩, (HS.pick (fun W_ h_ => ⟨AllF.get 0 rfl h_, trivial⟩) (fun W_ h_ => ⟨AllF.get 0 rfl h_, trivial⟩))⟩ ⟨rfl, rfl, rfl, trivial⟩ ?_
  rintro k_ E_ w26 ⟨i15, xs16, v17, I18, rfl, ⟨o13, H, Ho14⟩, HS⟩
  rcases k_ with _ | k27
  · exact (Option.some_ne_none _ (show none = some _ from H).symm).elim
  replace H : laws_toLayerS.b0 l0 (laws_toLayerS.l0 l0 k27) k27 i15 xs16 = some o13 := H
  unfold laws_toLayerS.b0 at H
  refine WC.seq (fun K28 hK28 => ?_)
  refine WC.seq (fun K29 hK29 => ?_)
  refine WC.region ?_
  refine mv_ ?_
  refine mv_ ?_
  refine v_ (Run.len (ts := #[]) rfl Try.underlying24 rfl) ?_
  refine v_ (Run.bin rfl rfl rfl bin_lss) ?_
  refine WL.done ?_
  refine WQ.via (fun _ _ h_ => h_) hK29 ?_
  by_cases c30 : i15 < (l0.length : Int)
  · rw [if_pos c30] at H
    refine WC.yes rfl (decide_eq_true c30) ?_
    refine WC.skip ?_
    refine WQ.via (fun _ _ h_ => h_) hK28 ?_
    refine WC.seq (fun K31 hK31 => ?_)
    refine WC.block ?_
    refine WC.region ?_
    refine mv_ ?_
    refine mv_ ?_
    refine mv_ ?_
    refine mv_ ?_
    obtain ⟨⟨q32, q33⟩, H⟩ := if_some H
    obtain ⟨ad34, rfl⟩ := C_open (HS.getO 0 rfl) (by omega)
    refine v_ (Run.indexAddr rfl rfl rfl Try.underlying24 (sz := 32) (by kernel_rfl) q32 q33) ?_
    obtain ⟨e35, el36, HS⟩ := HS.elO 0 rfl (by decide) o44 i15 q32 q33
    replace HS := HS.deriveO (p := (fun W => k44.K W (l0.getD i15.toNat o44) e35)) (fun W_ hO_ hN_ => (AllF.get 0 rfl hO_).1)
    refine v_ (Run.loadS (cs := e35) rfl rfl Try.underlying44 rfl (by rw [el36]; kernel_rfl) (HS.getO 1 rfl).2) ?_
    obtain ⟨t37, ha38, H⟩ := bind_some H
    refine c_ Try.func21 (laws_toLayer.runs k27 e35 (l0.getD i15.toNat o44) t37 _ (HS.getO 0 rfl) ha38) ?_
    rintro _ w39 ⟨cs40, rfl, hf41, hb⟩
    replace HS := HS.newNs hb (ps := [(fun W => k48.K W t37 cs40)]) (foot_cons hf41 foot_nil)
    have el42 : cs40.length = 32 := k48.K_len (Foot.now hf41)
    refine ⟨_, rfl, ?_⟩
    clear hb
    obtain ⟨⟨q43, q44⟩, H⟩ := if_some H
    obtain ⟨A45, c46, rfl⟩ := row_slice (HS.mu 0 rfl)
    obtain ⟨ad47, rfl⟩ := row_open (HS.mu 0 rfl) (by omega)
    refine v_ (Run.indexAddr rfl rfl rfl Try.underlying35 (sz := 32) (by kernel_rfl) q43 q44) ?_
    have hk_ := mul_room q43 q44 32
    refine WL.putEl HS 0 rfl rfl rfl rfl rfl rfl cs40 rfl (Kd.K_one _ (HS.getN 0 rfl)) (by rw [el42]; kernel_rfl) (by first | omega | (rw [el42]; omega) | (simp; omega)) (fun w48 I49 hI50 HS => ?_)
    clear hk_
    replace HS := HS.deriveN (p := (fun W => Reps (k48.K W) k48.sz (xs16.set i15.toNat t37) I49)) (fun W_ hN_ => reps_set hI50 (AllF.get 1 rfl hN_) (AllF.get 0 rfl hN_) (toNat_lt q43 q44))
    replace HS := HS.rowN 0 rfl (show xs16.length = (xs16.set i15.toNat t37).length from (List.length_set ..).symm)
    refine WL.done ?_
    refine WQ.via (fun _ _ h_ => h_) hK31 ?_
    refine WC.region ?_
    refine mv_ ?_
    refine v_ (Run.bin rfl rfl rfl bin_add64) ?_
    refine as_ ?_
    refine WL.done ?_
    exact WQ.round k27 (fun _ _ h_ => h_) (Nat.lt_succ_self _) ⟨(wrap64 (i15 + 1)), (xs16.set i15.toNat t37), (.slice (some ad47) xs16.length c46), I49, rfl, ⟨_, H, Ho14⟩, (HS.pick (fun W_ h_ => ⟨AllF.get 2 rfl h_, trivial⟩) (fun W_ h_ => ⟨AllF.get 0 rfl h_, trivial⟩))⟩ ⟨rfl, rfl, rfl, trivial⟩
  · rw [if_neg c30] at H
    refine WC.no rfl (decide_eq_false c30) ?_
    refine WC.exit ?_
    obtain rfl := Option.some.inj H
    exact WQ.via2 (fun _ _ h_ => h_) X19 ⟨i15, xs16, v17, I18, rfl, Ho14, (HS.pick (fun W_ h_ => ⟨AllF.get 0 rfl h_, trivial⟩) (fun W_ h_ => ⟨AllF.get 0 rfl h_, trivial⟩))⟩ ⟨rfl, rfl, rfl, trivial⟩
end Go.Proofs.Ytacbkcofcbglhaa.PFnExactVocab
